-- written by xprint.py, a program of this claim's work (wip/xprint), which runs the kit's printer with hooks
import Derived.Test.YthagjeomcgphiaaDoorX0
import Derived.Test.YthagjeomcgphiaaDoorX5
namespace Go.Proofs.YthagjeomcgphiaaDoor.X
open Go.RowKit Go.Proofs.YthagjeomcgphiaaDoorW.PrintWords Go.Proofs.YthagjeomcgphiaaDoorW.PrintLast Go.Proofs.YthagjeomcgphiaaDoorW.PrintMore
attribute [local go_sem] max2_int min2_int max_two min_two max_three min_three max_four min_four   -- for this text's walks alone
set_option linter.unusedVariables false
set_option linter.unusedSimpArgs false

/-! ### rhyneref08_Right: function 31 -/
mutual
def rhyneref08_Right.j0 : Nat → Bool → Int → Int → ByteArray → ByteArray → ByteArray → Int → Int → Int → Bool → List Int → Option (Bool)
 | 0, _, _, _, _, _, _, _, _, _, _, _ => none
 | k + 1, x51, x235000, x235001, x235002, x235003, x235004, x235005, x235006, x235007, x235008, x235009 => if x51 = true then (some false) else (rhyneref08_Right.l0 k 0 x235000 x235001 x235002 x235003 x235004 x235005 x235006 x235007 x235008 x235009)
def rhyneref08_Right.l0 : Nat → Int → Int → Int → ByteArray → ByteArray → ByteArray → Int → Int → Int → Bool → List Int → Option (Bool)
 | 0, _, _, _, _, _, _, _, _, _, _, _ => none
 | k + 1, x3, x235000, x235001, x235002, x235003, x235004, x235005, x235006, x235007, x235008, x235009 => if x3 < (x235009.length : Int) then (if 0 ≤ x3 then ((rhyneref08_word.f (rd x235009 x3)).bind fun t237 => (if t237 = true then (rhyneref08_Right.l0 k (wrap64 (x3 + 1)) x235000 x235001 x235002 x235003 x235004 x235005 x235006 x235007 x235008 x235009) else (some false))) else (none)) else (if x235000 = 0 then (rhyneref08_Right.j2 k x235000 (x235000 == 0) x235000 x235001 x235002 x235003 x235004 x235005 x235006 x235007 x235008 x235009) else (if x235000 = 1 then (rhyneref08_Right.j2 k x235000 (x235000 == 1) x235000 x235001 x235002 x235003 x235004 x235005 x235006 x235007 x235008 x235009) else (rhyneref08_Right.j2 k x235000 (x235000 == 2) x235000 x235001 x235002 x235003 x235004 x235005 x235006 x235007 x235008 x235009)))
def rhyneref08_Right.j2 : Nat → Int → Bool → Int → Int → ByteArray → ByteArray → ByteArray → Int → Int → Int → Bool → List Int → Option (Bool)
 | 0, _, _, _, _, _, _, _, _, _, _, _, _ => none
 | k + 1, x67, x68, x235000, x235001, x235002, x235003, x235004, x235005, x235006, x235007, x235008, x235009 => if x68 = true then (if x235001 = 0 then (some false) else (if x235008 = true then (some false) else (if (x235009.length : Int) = 0 then (if x235000 = 0 then (if x235007 ≥ 1 then (some (decide (x235007 ≤ 4))) else (some false)) else (if x235004.toList = ([] : List UInt8) then (if x235007 ≥ 1 then (some (decide (x235007 ≤ 4))) else (some false)) else (some false))) else (some false)))) else (if x67 = 3 then (if x235001 = 0 then (some false) else (if x235005 = 0 then (if x235006 = 0 then (if x235007 = 0 then (if x235008 = true then (some false) else (some ((x235009.length : Int) == 0))) else (some false)) else (some false)) else (some false))) else (if x67 = 4 then (if x235001 = 0 then (if x235005 = 0 then (if x235003.toList = ([] : List UInt8) then (if x235004.toList = ([] : List UInt8) then (if (x235009.length : Int) = 0 then (if x235007 ≥ 1 then (some (decide (x235007 ≤ 4))) else (some false)) else (some false)) else (some false)) else (some false)) else (some false)) else (some false)) else (if x67 = 5 then (if x235001 = 0 then (if x235005 = 0 then (if x235006 = 0 then (if x235007 = 0 then (if x235008 = true then (some false) else (if x235004.toList = ([] : List UInt8) then (some (decide ((x235009.length : Int) > 0))) else (some false))) else (some false)) else (some false)) else (some false)) else (some false)) else (some false))))
end
def rhyneref08_Right.f (k : Nat) (a0_0 : Int) (a0_1 : Int) (a0_2 : ByteArray) (a0_3 : ByteArray) (a0_4 : ByteArray) (a0_5 : Int) (a0_6 : Int) (a0_7 : Int) (a0_8 : Bool) (l0_9 : List Int) : Option (Bool) := if (a0_2.size : Int) > 20 then (rhyneref08_Right.j0 k true a0_0 a0_1 a0_2 a0_3 a0_4 a0_5 a0_6 a0_7 a0_8 l0_9) else (if (a0_3.size : Int) > 20 then (rhyneref08_Right.j0 k true a0_0 a0_1 a0_2 a0_3 a0_4 a0_5 a0_6 a0_7 a0_8 l0_9) else ((rhyneref08_word.f a0_1).bind fun t235 => (if t235 = true then (if (a0_4.size : Int) > 512 then (rhyneref08_Right.j0 k true a0_0 a0_1 a0_2 a0_3 a0_4 a0_5 a0_6 a0_7 a0_8 l0_9) else (if a0_5 < 0 then (rhyneref08_Right.j0 k true a0_0 a0_1 a0_2 a0_3 a0_4 a0_5 a0_6 a0_7 a0_8 l0_9) else (if a0_5 > 16383 then (rhyneref08_Right.j0 k true a0_0 a0_1 a0_2 a0_3 a0_4 a0_5 a0_6 a0_7 a0_8 l0_9) else (if a0_6 < 0 then (rhyneref08_Right.j0 k true a0_0 a0_1 a0_2 a0_3 a0_4 a0_5 a0_6 a0_7 a0_8 l0_9) else (if a0_6 > 4611686018427387903 then (rhyneref08_Right.j0 k true a0_0 a0_1 a0_2 a0_3 a0_4 a0_5 a0_6 a0_7 a0_8 l0_9) else (rhyneref08_Right.j0 k (decide ((l0_9.length : Int) > 16)) a0_0 a0_1 a0_2 a0_3 a0_4 a0_5 a0_6 a0_7 a0_8 l0_9)))))) else (rhyneref08_Right.j0 k true a0_0 a0_1 a0_2 a0_3 a0_4 a0_5 a0_6 a0_7 a0_8 l0_9))))
theorem rhyneref08_Right.mono_l : ∀ k, (∀ y0 y1 y2 y3 y4 y5 y6 y7 y8 y9 y10, LeO (rhyneref08_Right.j0 k y0 y1 y2 y3 y4 y5 y6 y7 y8 y9 y10) (rhyneref08_Right.j0 (k + 1) y0 y1 y2 y3 y4 y5 y6 y7 y8 y9 y10)) ∧ (∀ y0 y1 y2 y3 y4 y5 y6 y7 y8 y9 y10, LeO (rhyneref08_Right.l0 k y0 y1 y2 y3 y4 y5 y6 y7 y8 y9 y10) (rhyneref08_Right.l0 (k + 1) y0 y1 y2 y3 y4 y5 y6 y7 y8 y9 y10)) ∧ (∀ y0 y1 y2 y3 y4 y5 y6 y7 y8 y9 y10 y11, LeO (rhyneref08_Right.j2 k y0 y1 y2 y3 y4 y5 y6 y7 y8 y9 y10 y11) (rhyneref08_Right.j2 (k + 1) y0 y1 y2 y3 y4 y5 y6 y7 y8 y9 y10 y11))
 | 0 => ⟨fun _ _ _ _ _ _ _ _ _ _ _ r h => by simp [rhyneref08_Right.j0] at h, fun _ _ _ _ _ _ _ _ _ _ _ r h => by simp [rhyneref08_Right.l0] at h, fun _ _ _ _ _ _ _ _ _ _ _ _ r h => by simp [rhyneref08_Right.j2] at h⟩
 | k + 1 => by
  obtain ⟨ih0, ih1, ih2⟩ := rhyneref08_Right.mono_l k
  refine ⟨?_, ?_, ?_⟩
  ·
   intro y0 y1 y2 y3 y4 y5 y6 y7 y8 y9 y10
   unfold rhyneref08_Right.j0
   repeat' first
   | (with_reducible exact ih0 _ _ _ _ _ _ _ _ _ _ _)
   | (with_reducible exact ih1 _ _ _ _ _ _ _ _ _ _ _)
   | (with_reducible exact ih2 _ _ _ _ _ _ _ _ _ _ _ _)
   | (with_reducible exact LeO.refl _)
   | (with_reducible exact LeO.none _)
   | (with_reducible refine LeO.ite ?_ ?_)
   | (with_reducible refine LeO.bind ?_ (fun _ => ?_))
   | exact ih0 _ _ _ _ _ _ _ _ _ _ _
   | exact ih1 _ _ _ _ _ _ _ _ _ _ _
   | exact ih2 _ _ _ _ _ _ _ _ _ _ _ _
   | exact LeO.none _
   | refine LeO.ite ?_ ?_
   | refine LeO.bind ?_ (fun _ => ?_)
  ·
   intro y0 y1 y2 y3 y4 y5 y6 y7 y8 y9 y10
   unfold rhyneref08_Right.l0
   repeat' first
   | (with_reducible exact ih0 _ _ _ _ _ _ _ _ _ _ _)
   | (with_reducible exact ih1 _ _ _ _ _ _ _ _ _ _ _)
   | (with_reducible exact ih2 _ _ _ _ _ _ _ _ _ _ _ _)
   | (with_reducible exact LeO.refl _)
   | (with_reducible exact LeO.none _)
   | (with_reducible refine LeO.ite ?_ ?_)
   | (with_reducible refine LeO.bind ?_ (fun _ => ?_))
   | exact ih0 _ _ _ _ _ _ _ _ _ _ _
   | exact ih1 _ _ _ _ _ _ _ _ _ _ _
   | exact ih2 _ _ _ _ _ _ _ _ _ _ _ _
   | exact LeO.none _
   | refine LeO.ite ?_ ?_
   | refine LeO.bind ?_ (fun _ => ?_)
  ·
   intro y0 y1 y2 y3 y4 y5 y6 y7 y8 y9 y10 y11
   unfold rhyneref08_Right.j2
   repeat' first
   | (with_reducible exact ih0 _ _ _ _ _ _ _ _ _ _ _)
   | (with_reducible exact ih1 _ _ _ _ _ _ _ _ _ _ _)
   | (with_reducible exact ih2 _ _ _ _ _ _ _ _ _ _ _ _)
   | (with_reducible exact LeO.refl _)
   | (with_reducible exact LeO.none _)
   | (with_reducible refine LeO.ite ?_ ?_)
   | (with_reducible refine LeO.bind ?_ (fun _ => ?_))
   | exact ih0 _ _ _ _ _ _ _ _ _ _ _
   | exact ih1 _ _ _ _ _ _ _ _ _ _ _
   | exact ih2 _ _ _ _ _ _ _ _ _ _ _ _
   | exact LeO.none _
   | refine LeO.ite ?_ ?_
   | refine LeO.bind ?_ (fun _ => ?_)
theorem rhyneref08_Right.mono : ∀ a0 a1 a2 a3 a4 a5 a6 a7 a8 a9 k, LeO (rhyneref08_Right.f k a0 a1 a2 a3 a4 a5 a6 a7 a8 a9) (rhyneref08_Right.f (k + 1) a0 a1 a2 a3 a4 a5 a6 a7 a8 a9) := by
 intro a0 a1 a2 a3 a4 a5 a6 a7 a8 a9 k
 obtain ⟨ih0, ih1, ih2⟩ := rhyneref08_Right.mono_l k
 unfold rhyneref08_Right.f
 repeat' first
   | (with_reducible exact ih0 _ _ _ _ _ _ _ _ _ _ _)
   | (with_reducible exact ih1 _ _ _ _ _ _ _ _ _ _ _)
   | (with_reducible exact ih2 _ _ _ _ _ _ _ _ _ _ _ _)
   | (with_reducible exact LeO.refl _)
   | (with_reducible exact LeO.none _)
   | (with_reducible refine LeO.ite ?_ ?_)
   | (with_reducible refine LeO.bind ?_ (fun _ => ?_))
   | exact ih0 _ _ _ _ _ _ _ _ _ _ _
   | exact ih1 _ _ _ _ _ _ _ _ _ _ _
   | exact ih2 _ _ _ _ _ _ _ _ _ _ _ _
   | exact LeO.none _
   | refine LeO.ite ?_ ?_
   | refine LeO.bind ?_ (fun _ => ?_)
set_option maxHeartbeats 8000000 in
set_option maxRecDepth 100000 in
theorem rhyneref08_Right.calls (k : Nat) (a0_0 : Int) (a0_1 : Int) (a0_2 : ByteArray) (a0_3 : ByteArray) (a0_4 : ByteArray) (a0_5 : Int) (a0_6 : Int) (a0_7 : Int) (a0_8 : Bool) (A0_9 : Option Addr) (c0_9 : Nat) (l0_9 : List Int) (r : Bool) (w : World) (hr0_9 : Kd.C (Kd.int .i64) w A0_9 l0_9.length l0_9) (hc0_9 : l0_9.length ≤ c0_9) (h : rhyneref08_Right.f k a0_0 a0_1 a0_2 a0_3 a0_4 a0_5 a0_6 a0_7 a0_8 l0_9 = some r) :
  Calls Tryd.prog 31 #[.agg #[.int .i64 a0_0, .int .i64 a0_1, .string a0_2, .string a0_3, .string a0_4, .int .i64 a0_5, .int .i64 a0_6, .int .i64 a0_7, .bool a0_8, .slice A0_9 l0_9.length c0_9]] w fun e w' => e = .returned (.bool r) ∧ Below w.heap.size w w' := by
 have hu24 := Tryd.underlying24
 have HR0_9 := Aside0.mk hr0_9
 have HC0_9 := Aside0.mk hc0_9
 clear hr0_9 hc0_9
 have HB := Aside0.mk (Below.refl w.heap.size w)
 have H : (if (a0_2.size : Int) > 20 then (rhyneref08_Right.j0 k true a0_0 a0_1 a0_2 a0_3 a0_4 a0_5 a0_6 a0_7 a0_8 l0_9) else (if (a0_3.size : Int) > 20 then (rhyneref08_Right.j0 k true a0_0 a0_1 a0_2 a0_3 a0_4 a0_5 a0_6 a0_7 a0_8 l0_9) else ((rhyneref08_word.f a0_1).bind fun t235 => (if t235 = true then (if (a0_4.size : Int) > 512 then (rhyneref08_Right.j0 k true a0_0 a0_1 a0_2 a0_3 a0_4 a0_5 a0_6 a0_7 a0_8 l0_9) else (if a0_5 < 0 then (rhyneref08_Right.j0 k true a0_0 a0_1 a0_2 a0_3 a0_4 a0_5 a0_6 a0_7 a0_8 l0_9) else (if a0_5 > 16383 then (rhyneref08_Right.j0 k true a0_0 a0_1 a0_2 a0_3 a0_4 a0_5 a0_6 a0_7 a0_8 l0_9) else (if a0_6 < 0 then (rhyneref08_Right.j0 k true a0_0 a0_1 a0_2 a0_3 a0_4 a0_5 a0_6 a0_7 a0_8 l0_9) else (if a0_6 > 4611686018427387903 then (rhyneref08_Right.j0 k true a0_0 a0_1 a0_2 a0_3 a0_4 a0_5 a0_6 a0_7 a0_8 l0_9) else (rhyneref08_Right.j0 k (decide ((l0_9.length : Int) > 16)) a0_0 a0_1 a0_2 a0_3 a0_4 a0_5 a0_6 a0_7 a0_8 l0_9)))))) else (rhyneref08_Right.j0 k true a0_0 a0_1 a0_2 a0_3 a0_4 a0_5 a0_6 a0_7 a0_8 l0_9))))) = some r := h
 clear h
 have HC2 := Aside0.mk H
 clear H
 go_enter Tryd.func31, Tryd.ntmps31
 go_upto_region 1 with (first | ((with_reducible refine gate_dst (N := 1) rfl ?_); (try (refine gate_guard (by rfl) ?_; dsimp only)); refine box_event ?hg (N := 1) ?hd (cs := #[.int .i64 a0_0, .int .i64 a0_1, .string a0_2, .string a0_3, .string a0_4, .int .i64 a0_5, .int .i64 a0_6, .int .i64 a0_7, .bool a0_8, .slice A0_9 l0_9.length c0_9]) (t := 24) ?hr ?_; (case hd => rfl); (case hg => rfl); (case hr => first | (go_simp; done) | (go_simp; rfl)); intro gb234 hg w3 hbox hb; have n0_ := Aside0.mk (below_step (by repeat (first | (with_reducible first | exact HB.out | apply below_alloc | apply pw_below_drewN | apply below_drew1) | exact HB.out)) hb); have n1_ := Aside0.mk (hbox); have n2_ := Aside0.mk ((by rw [hg]; exact (below_size (by repeat (first | (with_reducible first | exact HB.out | apply below_alloc | apply pw_below_drewN | apply below_drew1) | exact HB.out))) : w.heap.size ≤ gb234)); have n3_ := Aside0.mk ((by rw [hg]; exact (below_size (by repeat (first | (with_reducible first | exact HB.out | apply below_alloc | apply pw_below_drewN | apply below_drew1) | exact HB.out))) : w.heap.size ≤ gb234)); clear HB; have HB := n0_; have BK234 := n1_; have GW234 := n2_; have GE234 := n3_; clear n0_ n1_ n2_ n3_; clear hb hbox hg))
 (try simp only [Act.put, List.setIfInBounds_toArray, List.set_cons_zero, List.set_cons_succ])
 go_cut [51] (fun v51 wc => ∃ (kq : Nat) (x51_1 : Bool), v51 = .bool x51_1 ∧ Aside0 (rhyneref08_Right.j0 kq x51_1 a0_0 a0_1 a0_2 a0_3 a0_4 a0_5 a0_6 a0_7 a0_8 l0_9 = some r) ∧ Aside0 (kq ≤ k) ∧ Aside0 (wc.heap[gb234]? = some (.cells #[.int .i64 a0_0, .int .i64 a0_1, .string a0_2, .string a0_3, .string a0_4, .int .i64 a0_5, .int .i64 a0_6, .int .i64 a0_7, .bool a0_8, (.slice A0_9 l0_9.length c0_9)] 24 (0, 0))) ∧ Aside0 (Below w.heap.size w wc))
 case first => as_aux_lemma =>
  have H := HC2.out
  clear HC2
  by_cases c4 : (a0_2.size : Int) > 20
  ·
   rw [if_pos c4] at H
   have c4b0 : decide (20 < (a0_2.size : Int)) = true := decide_eq_true c4
   have c4b1 : decide (20 < a0_2.size) = true := decide_eq_true (by omega)
   clear c4
   (first | rw [c4b0] | (simp only [i64_w, i32_w]; rw [c4b0]) | skip)
   have H' := Aside0.mk H
   clear H
   have hcz5_0 : w3.cell? ⟨gb234, 0, none⟩ = some (.int .i64 a0_0) := (blk_cell BK234.out 0).trans rfl
   have hcz5_1 : w3.cell? ⟨gb234, 1, none⟩ = some (.int .i64 a0_1) := (blk_cell BK234.out 1).trans rfl
   have hcz5_2 : w3.cell? ⟨gb234, 2, none⟩ = some (.string a0_2) := (blk_cell BK234.out 2).trans rfl
   have hcz5_3 : w3.cell? ⟨gb234, 3, none⟩ = some (.string a0_3) := (blk_cell BK234.out 3).trans rfl
   have hcz5_4 : w3.cell? ⟨gb234, 4, none⟩ = some (.string a0_4) := (blk_cell BK234.out 4).trans rfl
   have hcz5_5 : w3.cell? ⟨gb234, 5, none⟩ = some (.int .i64 a0_5) := (blk_cell BK234.out 5).trans rfl
   have hcz5_6 : w3.cell? ⟨gb234, 6, none⟩ = some (.int .i64 a0_6) := (blk_cell BK234.out 6).trans rfl
   have hcz5_7 : w3.cell? ⟨gb234, 7, none⟩ = some (.int .i64 a0_7) := (blk_cell BK234.out 7).trans rfl
   have hcz5_8 : w3.cell? ⟨gb234, 8, none⟩ = some (.bool a0_8) := (blk_cell BK234.out 8).trans rfl
   have hcz5_9 : w3.cell? ⟨gb234, 9, none⟩ = some (.slice A0_9 l0_9.length c0_9) := (blk_cell BK234.out 9).trans rfl
   have hfz5_0 := blk_frozen BK234.out 0
   have hfz5_1 := blk_frozen BK234.out 1
   have hfz5_2 := blk_frozen BK234.out 2
   have hfz5_3 := blk_frozen BK234.out 3
   have hfz5_4 := blk_frozen BK234.out 4
   have hfz5_5 := blk_frozen BK234.out 5
   have hfz5_6 := blk_frozen BK234.out 6
   have hfz5_7 := blk_frozen BK234.out 7
   have hfz5_8 := blk_frozen BK234.out 8
   have hfz5_9 := blk_frozen BK234.out 9
   go_wp2
   go_meet
   case rel => exact ⟨_, (true), (by first | rfl | (simp; done) | (simp [*]; done)), H', ⟨by first | omega | exact Nat.le_refl _⟩, ⟨by (with_reducible repeat (first | refine blk_drewN ?_ _ | refine blk_drew ?_ | refine blk_alloc ?_ _)); exact BK234.out⟩, ⟨by repeat (first | (with_reducible first | exact HB.out | apply below_alloc | apply pw_below_drewN | apply below_drew1 | refine below_set ?_ GE234.out) | exact HB.out)⟩⟩
  ·
   rw [if_neg c4] at H
   have c4b0 : decide (20 < (a0_2.size : Int)) = false := decide_eq_false c4
   have c4b1 : decide (20 < a0_2.size) = false := decide_eq_false (by omega)
   clear c4
   (first | rw [c4b0] | (simp only [i64_w, i32_w]; rw [c4b0]) | skip)
   by_cases c6 : (a0_3.size : Int) > 20
   ·
    rw [if_pos c6] at H
    have c6b0 : decide (20 < (a0_3.size : Int)) = true := decide_eq_true c6
    have c6b1 : decide (20 < a0_3.size) = true := decide_eq_true (by omega)
    clear c6
    have H' := Aside0.mk H
    clear H
    have hcz7_0 : w3.cell? ⟨gb234, 0, none⟩ = some (.int .i64 a0_0) := (blk_cell BK234.out 0).trans rfl
    have hcz7_1 : w3.cell? ⟨gb234, 1, none⟩ = some (.int .i64 a0_1) := (blk_cell BK234.out 1).trans rfl
    have hcz7_2 : w3.cell? ⟨gb234, 2, none⟩ = some (.string a0_2) := (blk_cell BK234.out 2).trans rfl
    have hcz7_3 : w3.cell? ⟨gb234, 3, none⟩ = some (.string a0_3) := (blk_cell BK234.out 3).trans rfl
    have hcz7_4 : w3.cell? ⟨gb234, 4, none⟩ = some (.string a0_4) := (blk_cell BK234.out 4).trans rfl
    have hcz7_5 : w3.cell? ⟨gb234, 5, none⟩ = some (.int .i64 a0_5) := (blk_cell BK234.out 5).trans rfl
    have hcz7_6 : w3.cell? ⟨gb234, 6, none⟩ = some (.int .i64 a0_6) := (blk_cell BK234.out 6).trans rfl
    have hcz7_7 : w3.cell? ⟨gb234, 7, none⟩ = some (.int .i64 a0_7) := (blk_cell BK234.out 7).trans rfl
    have hcz7_8 : w3.cell? ⟨gb234, 8, none⟩ = some (.bool a0_8) := (blk_cell BK234.out 8).trans rfl
    have hcz7_9 : w3.cell? ⟨gb234, 9, none⟩ = some (.slice A0_9 l0_9.length c0_9) := (blk_cell BK234.out 9).trans rfl
    have hfz7_0 := blk_frozen BK234.out 0
    have hfz7_1 := blk_frozen BK234.out 1
    have hfz7_2 := blk_frozen BK234.out 2
    have hfz7_3 := blk_frozen BK234.out 3
    have hfz7_4 := blk_frozen BK234.out 4
    have hfz7_5 := blk_frozen BK234.out 5
    have hfz7_6 := blk_frozen BK234.out 6
    have hfz7_7 := blk_frozen BK234.out 7
    have hfz7_8 := blk_frozen BK234.out 8
    have hfz7_9 := blk_frozen BK234.out 9
    go_wp2
    go_meet
    case rel => exact ⟨_, (true), (by first | rfl | (simp; done) | (simp [*]; done)), H', ⟨by first | omega | exact Nat.le_refl _⟩, ⟨by (with_reducible repeat (first | refine blk_drewN ?_ _ | refine blk_drew ?_ | refine blk_alloc ?_ _)); exact BK234.out⟩, ⟨by repeat (first | (with_reducible first | exact HB.out | apply below_alloc | apply pw_below_drewN | apply below_drew1 | refine below_set ?_ GE234.out) | exact HB.out)⟩⟩
   ·
    rw [if_neg c6] at H
    have c6b0 : decide (20 < (a0_3.size : Int)) = false := decide_eq_false c6
    have c6b1 : decide (20 < a0_3.size) = false := decide_eq_false (by omega)
    clear c6
    replace H := Option.bind_eq_some_iff.mp H
    obtain ⟨t235, A80, H⟩ := H
    replace H : (if t235 = true then (if (a0_4.size : Int) > 512 then (rhyneref08_Right.j0 k true a0_0 a0_1 a0_2 a0_3 a0_4 a0_5 a0_6 a0_7 a0_8 l0_9) else (if a0_5 < 0 then (rhyneref08_Right.j0 k true a0_0 a0_1 a0_2 a0_3 a0_4 a0_5 a0_6 a0_7 a0_8 l0_9) else (if a0_5 > 16383 then (rhyneref08_Right.j0 k true a0_0 a0_1 a0_2 a0_3 a0_4 a0_5 a0_6 a0_7 a0_8 l0_9) else (if a0_6 < 0 then (rhyneref08_Right.j0 k true a0_0 a0_1 a0_2 a0_3 a0_4 a0_5 a0_6 a0_7 a0_8 l0_9) else (if a0_6 > 4611686018427387903 then (rhyneref08_Right.j0 k true a0_0 a0_1 a0_2 a0_3 a0_4 a0_5 a0_6 a0_7 a0_8 l0_9) else (rhyneref08_Right.j0 k (decide ((l0_9.length : Int) > 16)) a0_0 a0_1 a0_2 a0_3 a0_4 a0_5 a0_6 a0_7 a0_8 l0_9)))))) else (rhyneref08_Right.j0 k true a0_0 a0_1 a0_2 a0_3 a0_4 a0_5 a0_6 a0_7 a0_8 l0_9)) = some r := H
    have A8 := Aside0.mk A80
    clear A80
    by_cases c9 : t235 = true
    ·
     subst c9
     have H1 : (if (a0_4.size : Int) > 512 then (rhyneref08_Right.j0 k true a0_0 a0_1 a0_2 a0_3 a0_4 a0_5 a0_6 a0_7 a0_8 l0_9) else (if a0_5 < 0 then (rhyneref08_Right.j0 k true a0_0 a0_1 a0_2 a0_3 a0_4 a0_5 a0_6 a0_7 a0_8 l0_9) else (if a0_5 > 16383 then (rhyneref08_Right.j0 k true a0_0 a0_1 a0_2 a0_3 a0_4 a0_5 a0_6 a0_7 a0_8 l0_9) else (if a0_6 < 0 then (rhyneref08_Right.j0 k true a0_0 a0_1 a0_2 a0_3 a0_4 a0_5 a0_6 a0_7 a0_8 l0_9) else (if a0_6 > 4611686018427387903 then (rhyneref08_Right.j0 k true a0_0 a0_1 a0_2 a0_3 a0_4 a0_5 a0_6 a0_7 a0_8 l0_9) else (rhyneref08_Right.j0 k (decide ((l0_9.length : Int) > 16)) a0_0 a0_1 a0_2 a0_3 a0_4 a0_5 a0_6 a0_7 a0_8 l0_9)))))) = some r := by rw [if_pos rfl] at H; exact H
     clear H
     have H := H1
     clear H1
     by_cases c10 : (a0_4.size : Int) > 512
     ·
      rw [if_pos c10] at H
      have c10b0 : decide (512 < (a0_4.size : Int)) = true := decide_eq_true c10
      have c10b1 : decide (512 < a0_4.size) = true := decide_eq_true (by omega)
      clear c10
      have H' := Aside0.mk H
      clear H
      have hcz11_0 : w3.cell? ⟨gb234, 0, none⟩ = some (.int .i64 a0_0) := (blk_cell BK234.out 0).trans rfl
      have hcz11_1 : w3.cell? ⟨gb234, 1, none⟩ = some (.int .i64 a0_1) := (blk_cell BK234.out 1).trans rfl
      have hcz11_2 : w3.cell? ⟨gb234, 2, none⟩ = some (.string a0_2) := (blk_cell BK234.out 2).trans rfl
      have hcz11_3 : w3.cell? ⟨gb234, 3, none⟩ = some (.string a0_3) := (blk_cell BK234.out 3).trans rfl
      have hcz11_4 : w3.cell? ⟨gb234, 4, none⟩ = some (.string a0_4) := (blk_cell BK234.out 4).trans rfl
      have hcz11_5 : w3.cell? ⟨gb234, 5, none⟩ = some (.int .i64 a0_5) := (blk_cell BK234.out 5).trans rfl
      have hcz11_6 : w3.cell? ⟨gb234, 6, none⟩ = some (.int .i64 a0_6) := (blk_cell BK234.out 6).trans rfl
      have hcz11_7 : w3.cell? ⟨gb234, 7, none⟩ = some (.int .i64 a0_7) := (blk_cell BK234.out 7).trans rfl
      have hcz11_8 : w3.cell? ⟨gb234, 8, none⟩ = some (.bool a0_8) := (blk_cell BK234.out 8).trans rfl
      have hcz11_9 : w3.cell? ⟨gb234, 9, none⟩ = some (.slice A0_9 l0_9.length c0_9) := (blk_cell BK234.out 9).trans rfl
      have hfz11_0 := blk_frozen BK234.out 0
      have hfz11_1 := blk_frozen BK234.out 1
      have hfz11_2 := blk_frozen BK234.out 2
      have hfz11_3 := blk_frozen BK234.out 3
      have hfz11_4 := blk_frozen BK234.out 4
      have hfz11_5 := blk_frozen BK234.out 5
      have hfz11_6 := blk_frozen BK234.out 6
      have hfz11_7 := blk_frozen BK234.out 7
      have hfz11_8 := blk_frozen BK234.out 8
      have hfz11_9 := blk_frozen BK234.out 9
      go_wp2_with (first | (go_at_call 51; (with_reducible refine (rhyneref08_word.calls a0_1 true _ A8.out).mono ?_); rintro e w' ⟨rfl, ⟨nd, rfl⟩⟩))
      go_meet
      case rel => exact ⟨_, (true), (by first | rfl | (simp; done) | (simp [*]; done)), H', ⟨by first | omega | exact Nat.le_refl _⟩, ⟨by (with_reducible repeat (first | refine blk_drewN ?_ _ | refine blk_drew ?_ | refine blk_alloc ?_ _)); exact BK234.out⟩, ⟨by repeat (first | (with_reducible first | exact HB.out | apply below_alloc | apply pw_below_drewN | apply below_drew1 | refine below_set ?_ GE234.out) | exact HB.out)⟩⟩
     ·
      rw [if_neg c10] at H
      have c10b0 : decide (512 < (a0_4.size : Int)) = false := decide_eq_false c10
      have c10b1 : decide (512 < a0_4.size) = false := decide_eq_false (by omega)
      clear c10
      by_cases c12 : a0_5 < 0
      ·
       rw [if_pos c12] at H
       have c12b0 : decide (a0_5 < 0) = true := decide_eq_true c12
       clear c12
       have H' := Aside0.mk H
       clear H
       have hcz13_0 : w3.cell? ⟨gb234, 0, none⟩ = some (.int .i64 a0_0) := (blk_cell BK234.out 0).trans rfl
       have hcz13_1 : w3.cell? ⟨gb234, 1, none⟩ = some (.int .i64 a0_1) := (blk_cell BK234.out 1).trans rfl
       have hcz13_2 : w3.cell? ⟨gb234, 2, none⟩ = some (.string a0_2) := (blk_cell BK234.out 2).trans rfl
       have hcz13_3 : w3.cell? ⟨gb234, 3, none⟩ = some (.string a0_3) := (blk_cell BK234.out 3).trans rfl
       have hcz13_4 : w3.cell? ⟨gb234, 4, none⟩ = some (.string a0_4) := (blk_cell BK234.out 4).trans rfl
       have hcz13_5 : w3.cell? ⟨gb234, 5, none⟩ = some (.int .i64 a0_5) := (blk_cell BK234.out 5).trans rfl
       have hcz13_6 : w3.cell? ⟨gb234, 6, none⟩ = some (.int .i64 a0_6) := (blk_cell BK234.out 6).trans rfl
       have hcz13_7 : w3.cell? ⟨gb234, 7, none⟩ = some (.int .i64 a0_7) := (blk_cell BK234.out 7).trans rfl
       have hcz13_8 : w3.cell? ⟨gb234, 8, none⟩ = some (.bool a0_8) := (blk_cell BK234.out 8).trans rfl
       have hcz13_9 : w3.cell? ⟨gb234, 9, none⟩ = some (.slice A0_9 l0_9.length c0_9) := (blk_cell BK234.out 9).trans rfl
       have hfz13_0 := blk_frozen BK234.out 0
       have hfz13_1 := blk_frozen BK234.out 1
       have hfz13_2 := blk_frozen BK234.out 2
       have hfz13_3 := blk_frozen BK234.out 3
       have hfz13_4 := blk_frozen BK234.out 4
       have hfz13_5 := blk_frozen BK234.out 5
       have hfz13_6 := blk_frozen BK234.out 6
       have hfz13_7 := blk_frozen BK234.out 7
       have hfz13_8 := blk_frozen BK234.out 8
       have hfz13_9 := blk_frozen BK234.out 9
       go_wp2_with (first | (go_at_call 51; (with_reducible refine (rhyneref08_word.calls a0_1 true _ A8.out).mono ?_); rintro e w' ⟨rfl, ⟨nd, rfl⟩⟩))
       go_meet
       case rel => exact ⟨_, (true), (by first | rfl | (simp; done) | (simp [*]; done)), H', ⟨by first | omega | exact Nat.le_refl _⟩, ⟨by (with_reducible repeat (first | refine blk_drewN ?_ _ | refine blk_drew ?_ | refine blk_alloc ?_ _)); exact BK234.out⟩, ⟨by repeat (first | (with_reducible first | exact HB.out | apply below_alloc | apply pw_below_drewN | apply below_drew1 | refine below_set ?_ GE234.out) | exact HB.out)⟩⟩
      ·
       rw [if_neg c12] at H
       have c12b0 : decide (a0_5 < 0) = false := decide_eq_false c12
       clear c12
       by_cases c14 : a0_5 > 16383
       ·
        rw [if_pos c14] at H
        have c14b0 : decide (16383 < a0_5) = true := decide_eq_true c14
        clear c14
        have H' := Aside0.mk H
        clear H
        have hcz15_0 : w3.cell? ⟨gb234, 0, none⟩ = some (.int .i64 a0_0) := (blk_cell BK234.out 0).trans rfl
        have hcz15_1 : w3.cell? ⟨gb234, 1, none⟩ = some (.int .i64 a0_1) := (blk_cell BK234.out 1).trans rfl
        have hcz15_2 : w3.cell? ⟨gb234, 2, none⟩ = some (.string a0_2) := (blk_cell BK234.out 2).trans rfl
        have hcz15_3 : w3.cell? ⟨gb234, 3, none⟩ = some (.string a0_3) := (blk_cell BK234.out 3).trans rfl
        have hcz15_4 : w3.cell? ⟨gb234, 4, none⟩ = some (.string a0_4) := (blk_cell BK234.out 4).trans rfl
        have hcz15_5 : w3.cell? ⟨gb234, 5, none⟩ = some (.int .i64 a0_5) := (blk_cell BK234.out 5).trans rfl
        have hcz15_6 : w3.cell? ⟨gb234, 6, none⟩ = some (.int .i64 a0_6) := (blk_cell BK234.out 6).trans rfl
        have hcz15_7 : w3.cell? ⟨gb234, 7, none⟩ = some (.int .i64 a0_7) := (blk_cell BK234.out 7).trans rfl
        have hcz15_8 : w3.cell? ⟨gb234, 8, none⟩ = some (.bool a0_8) := (blk_cell BK234.out 8).trans rfl
        have hcz15_9 : w3.cell? ⟨gb234, 9, none⟩ = some (.slice A0_9 l0_9.length c0_9) := (blk_cell BK234.out 9).trans rfl
        have hfz15_0 := blk_frozen BK234.out 0
        have hfz15_1 := blk_frozen BK234.out 1
        have hfz15_2 := blk_frozen BK234.out 2
        have hfz15_3 := blk_frozen BK234.out 3
        have hfz15_4 := blk_frozen BK234.out 4
        have hfz15_5 := blk_frozen BK234.out 5
        have hfz15_6 := blk_frozen BK234.out 6
        have hfz15_7 := blk_frozen BK234.out 7
        have hfz15_8 := blk_frozen BK234.out 8
        have hfz15_9 := blk_frozen BK234.out 9
        go_wp2_with (first | (go_at_call 51; (with_reducible refine (rhyneref08_word.calls a0_1 true _ A8.out).mono ?_); rintro e w' ⟨rfl, ⟨nd, rfl⟩⟩))
        go_meet
        case rel => exact ⟨_, (true), (by first | rfl | (simp; done) | (simp [*]; done)), H', ⟨by first | omega | exact Nat.le_refl _⟩, ⟨by (with_reducible repeat (first | refine blk_drewN ?_ _ | refine blk_drew ?_ | refine blk_alloc ?_ _)); exact BK234.out⟩, ⟨by repeat (first | (with_reducible first | exact HB.out | apply below_alloc | apply pw_below_drewN | apply below_drew1 | refine below_set ?_ GE234.out) | exact HB.out)⟩⟩
       ·
        rw [if_neg c14] at H
        have c14b0 : decide (16383 < a0_5) = false := decide_eq_false c14
        clear c14
        by_cases c16 : a0_6 < 0
        ·
         rw [if_pos c16] at H
         have c16b0 : decide (a0_6 < 0) = true := decide_eq_true c16
         clear c16
         have H' := Aside0.mk H
         clear H
         have hcz17_0 : w3.cell? ⟨gb234, 0, none⟩ = some (.int .i64 a0_0) := (blk_cell BK234.out 0).trans rfl
         have hcz17_1 : w3.cell? ⟨gb234, 1, none⟩ = some (.int .i64 a0_1) := (blk_cell BK234.out 1).trans rfl
         have hcz17_2 : w3.cell? ⟨gb234, 2, none⟩ = some (.string a0_2) := (blk_cell BK234.out 2).trans rfl
         have hcz17_3 : w3.cell? ⟨gb234, 3, none⟩ = some (.string a0_3) := (blk_cell BK234.out 3).trans rfl
         have hcz17_4 : w3.cell? ⟨gb234, 4, none⟩ = some (.string a0_4) := (blk_cell BK234.out 4).trans rfl
         have hcz17_5 : w3.cell? ⟨gb234, 5, none⟩ = some (.int .i64 a0_5) := (blk_cell BK234.out 5).trans rfl
         have hcz17_6 : w3.cell? ⟨gb234, 6, none⟩ = some (.int .i64 a0_6) := (blk_cell BK234.out 6).trans rfl
         have hcz17_7 : w3.cell? ⟨gb234, 7, none⟩ = some (.int .i64 a0_7) := (blk_cell BK234.out 7).trans rfl
         have hcz17_8 : w3.cell? ⟨gb234, 8, none⟩ = some (.bool a0_8) := (blk_cell BK234.out 8).trans rfl
         have hcz17_9 : w3.cell? ⟨gb234, 9, none⟩ = some (.slice A0_9 l0_9.length c0_9) := (blk_cell BK234.out 9).trans rfl
         have hfz17_0 := blk_frozen BK234.out 0
         have hfz17_1 := blk_frozen BK234.out 1
         have hfz17_2 := blk_frozen BK234.out 2
         have hfz17_3 := blk_frozen BK234.out 3
         have hfz17_4 := blk_frozen BK234.out 4
         have hfz17_5 := blk_frozen BK234.out 5
         have hfz17_6 := blk_frozen BK234.out 6
         have hfz17_7 := blk_frozen BK234.out 7
         have hfz17_8 := blk_frozen BK234.out 8
         have hfz17_9 := blk_frozen BK234.out 9
         go_wp2_with (first | (go_at_call 51; (with_reducible refine (rhyneref08_word.calls a0_1 true _ A8.out).mono ?_); rintro e w' ⟨rfl, ⟨nd, rfl⟩⟩))
         go_meet
         case rel => exact ⟨_, (true), (by first | rfl | (simp; done) | (simp [*]; done)), H', ⟨by first | omega | exact Nat.le_refl _⟩, ⟨by (with_reducible repeat (first | refine blk_drewN ?_ _ | refine blk_drew ?_ | refine blk_alloc ?_ _)); exact BK234.out⟩, ⟨by repeat (first | (with_reducible first | exact HB.out | apply below_alloc | apply pw_below_drewN | apply below_drew1 | refine below_set ?_ GE234.out) | exact HB.out)⟩⟩
        ·
         rw [if_neg c16] at H
         have c16b0 : decide (a0_6 < 0) = false := decide_eq_false c16
         clear c16
         by_cases c18 : a0_6 > 4611686018427387903
         ·
          rw [if_pos c18] at H
          have c18b0 : decide (4611686018427387903 < a0_6) = true := decide_eq_true c18
          clear c18
          have H' := Aside0.mk H
          clear H
          have hcz19_0 : w3.cell? ⟨gb234, 0, none⟩ = some (.int .i64 a0_0) := (blk_cell BK234.out 0).trans rfl
          have hcz19_1 : w3.cell? ⟨gb234, 1, none⟩ = some (.int .i64 a0_1) := (blk_cell BK234.out 1).trans rfl
          have hcz19_2 : w3.cell? ⟨gb234, 2, none⟩ = some (.string a0_2) := (blk_cell BK234.out 2).trans rfl
          have hcz19_3 : w3.cell? ⟨gb234, 3, none⟩ = some (.string a0_3) := (blk_cell BK234.out 3).trans rfl
          have hcz19_4 : w3.cell? ⟨gb234, 4, none⟩ = some (.string a0_4) := (blk_cell BK234.out 4).trans rfl
          have hcz19_5 : w3.cell? ⟨gb234, 5, none⟩ = some (.int .i64 a0_5) := (blk_cell BK234.out 5).trans rfl
          have hcz19_6 : w3.cell? ⟨gb234, 6, none⟩ = some (.int .i64 a0_6) := (blk_cell BK234.out 6).trans rfl
          have hcz19_7 : w3.cell? ⟨gb234, 7, none⟩ = some (.int .i64 a0_7) := (blk_cell BK234.out 7).trans rfl
          have hcz19_8 : w3.cell? ⟨gb234, 8, none⟩ = some (.bool a0_8) := (blk_cell BK234.out 8).trans rfl
          have hcz19_9 : w3.cell? ⟨gb234, 9, none⟩ = some (.slice A0_9 l0_9.length c0_9) := (blk_cell BK234.out 9).trans rfl
          have hfz19_0 := blk_frozen BK234.out 0
          have hfz19_1 := blk_frozen BK234.out 1
          have hfz19_2 := blk_frozen BK234.out 2
          have hfz19_3 := blk_frozen BK234.out 3
          have hfz19_4 := blk_frozen BK234.out 4
          have hfz19_5 := blk_frozen BK234.out 5
          have hfz19_6 := blk_frozen BK234.out 6
          have hfz19_7 := blk_frozen BK234.out 7
          have hfz19_8 := blk_frozen BK234.out 8
          have hfz19_9 := blk_frozen BK234.out 9
          go_wp2_with (first | (go_at_call 51; (with_reducible refine (rhyneref08_word.calls a0_1 true _ A8.out).mono ?_); rintro e w' ⟨rfl, ⟨nd, rfl⟩⟩))
          go_meet
          case rel => exact ⟨_, (true), (by first | rfl | (simp; done) | (simp [*]; done)), H', ⟨by first | omega | exact Nat.le_refl _⟩, ⟨by (with_reducible repeat (first | refine blk_drewN ?_ _ | refine blk_drew ?_ | refine blk_alloc ?_ _)); exact BK234.out⟩, ⟨by repeat (first | (with_reducible first | exact HB.out | apply below_alloc | apply pw_below_drewN | apply below_drew1 | refine below_set ?_ GE234.out) | exact HB.out)⟩⟩
         ·
          rw [if_neg c18] at H
          have c18b0 : decide (4611686018427387903 < a0_6) = false := decide_eq_false c18
          clear c18
          have H' := Aside0.mk H
          clear H
          have hcz20_0 : w3.cell? ⟨gb234, 0, none⟩ = some (.int .i64 a0_0) := (blk_cell BK234.out 0).trans rfl
          have hcz20_1 : w3.cell? ⟨gb234, 1, none⟩ = some (.int .i64 a0_1) := (blk_cell BK234.out 1).trans rfl
          have hcz20_2 : w3.cell? ⟨gb234, 2, none⟩ = some (.string a0_2) := (blk_cell BK234.out 2).trans rfl
          have hcz20_3 : w3.cell? ⟨gb234, 3, none⟩ = some (.string a0_3) := (blk_cell BK234.out 3).trans rfl
          have hcz20_4 : w3.cell? ⟨gb234, 4, none⟩ = some (.string a0_4) := (blk_cell BK234.out 4).trans rfl
          have hcz20_5 : w3.cell? ⟨gb234, 5, none⟩ = some (.int .i64 a0_5) := (blk_cell BK234.out 5).trans rfl
          have hcz20_6 : w3.cell? ⟨gb234, 6, none⟩ = some (.int .i64 a0_6) := (blk_cell BK234.out 6).trans rfl
          have hcz20_7 : w3.cell? ⟨gb234, 7, none⟩ = some (.int .i64 a0_7) := (blk_cell BK234.out 7).trans rfl
          have hcz20_8 : w3.cell? ⟨gb234, 8, none⟩ = some (.bool a0_8) := (blk_cell BK234.out 8).trans rfl
          have hcz20_9 : w3.cell? ⟨gb234, 9, none⟩ = some (.slice A0_9 l0_9.length c0_9) := (blk_cell BK234.out 9).trans rfl
          have hfz20_0 := blk_frozen BK234.out 0
          have hfz20_1 := blk_frozen BK234.out 1
          have hfz20_2 := blk_frozen BK234.out 2
          have hfz20_3 := blk_frozen BK234.out 3
          have hfz20_4 := blk_frozen BK234.out 4
          have hfz20_5 := blk_frozen BK234.out 5
          have hfz20_6 := blk_frozen BK234.out 6
          have hfz20_7 := blk_frozen BK234.out 7
          have hfz20_8 := blk_frozen BK234.out 8
          have hfz20_9 := blk_frozen BK234.out 9
          go_wp2_with (first | (go_at_call 51; (with_reducible refine (rhyneref08_word.calls a0_1 true _ A8.out).mono ?_); rintro e w' ⟨rfl, ⟨nd, rfl⟩⟩))
          go_meet
          case rel => exact ⟨_, (decide ((l0_9.length : Int) > 16)), (by first | rfl | (simp; done) | (simp [*]; done)), H', ⟨by first | omega | exact Nat.le_refl _⟩, ⟨by (with_reducible repeat (first | refine blk_drewN ?_ _ | refine blk_drew ?_ | refine blk_alloc ?_ _)); exact BK234.out⟩, ⟨by repeat (first | (with_reducible first | exact HB.out | apply below_alloc | apply pw_below_drewN | apply below_drew1 | refine below_set ?_ GE234.out) | exact HB.out)⟩⟩
    ·
     replace c9 := Bool.eq_false_iff.mpr c9
     subst c9
     have H1 : (rhyneref08_Right.j0 k true a0_0 a0_1 a0_2 a0_3 a0_4 a0_5 a0_6 a0_7 a0_8 l0_9) = some r := by rw [if_neg (show ¬ (false = true) by decide)] at H; exact H
     clear H
     have H := H1
     clear H1
     have H' := Aside0.mk H
     clear H
     have hcz21_0 : w3.cell? ⟨gb234, 0, none⟩ = some (.int .i64 a0_0) := (blk_cell BK234.out 0).trans rfl
     have hcz21_1 : w3.cell? ⟨gb234, 1, none⟩ = some (.int .i64 a0_1) := (blk_cell BK234.out 1).trans rfl
     have hcz21_2 : w3.cell? ⟨gb234, 2, none⟩ = some (.string a0_2) := (blk_cell BK234.out 2).trans rfl
     have hcz21_3 : w3.cell? ⟨gb234, 3, none⟩ = some (.string a0_3) := (blk_cell BK234.out 3).trans rfl
     have hcz21_4 : w3.cell? ⟨gb234, 4, none⟩ = some (.string a0_4) := (blk_cell BK234.out 4).trans rfl
     have hcz21_5 : w3.cell? ⟨gb234, 5, none⟩ = some (.int .i64 a0_5) := (blk_cell BK234.out 5).trans rfl
     have hcz21_6 : w3.cell? ⟨gb234, 6, none⟩ = some (.int .i64 a0_6) := (blk_cell BK234.out 6).trans rfl
     have hcz21_7 : w3.cell? ⟨gb234, 7, none⟩ = some (.int .i64 a0_7) := (blk_cell BK234.out 7).trans rfl
     have hcz21_8 : w3.cell? ⟨gb234, 8, none⟩ = some (.bool a0_8) := (blk_cell BK234.out 8).trans rfl
     have hcz21_9 : w3.cell? ⟨gb234, 9, none⟩ = some (.slice A0_9 l0_9.length c0_9) := (blk_cell BK234.out 9).trans rfl
     have hfz21_0 := blk_frozen BK234.out 0
     have hfz21_1 := blk_frozen BK234.out 1
     have hfz21_2 := blk_frozen BK234.out 2
     have hfz21_3 := blk_frozen BK234.out 3
     have hfz21_4 := blk_frozen BK234.out 4
     have hfz21_5 := blk_frozen BK234.out 5
     have hfz21_6 := blk_frozen BK234.out 6
     have hfz21_7 := blk_frozen BK234.out 7
     have hfz21_8 := blk_frozen BK234.out 8
     have hfz21_9 := blk_frozen BK234.out 9
     go_wp2_with (first | (go_at_call 51; (with_reducible refine (rhyneref08_word.calls a0_1 false _ A8.out).mono ?_); rintro e w' ⟨rfl, ⟨nd, rfl⟩⟩))
     go_meet
     case rel => exact ⟨_, (true), (by first | rfl | (simp; done) | (simp [*]; done)), H', ⟨by first | omega | exact Nat.le_refl _⟩, ⟨by (with_reducible repeat (first | refine blk_drewN ?_ _ | refine blk_drew ?_ | refine blk_alloc ?_ _)); exact BK234.out⟩, ⟨by repeat (first | (with_reducible first | exact HB.out | apply below_alloc | apply pw_below_drewN | apply below_drew1 | refine below_set ?_ GE234.out) | exact HB.out)⟩⟩
 case rest => as_aux_lemma =>
  clear HC2
  try clear c1
  try clear p2
  try clear c3
  try clear c4
  try clear c4b0
  try clear c4b1
  try clear c6
  try clear c6b0
  try clear c6b1
  try clear c9
  try clear c10
  try clear c10b0
  try clear c10b1
  try clear c12
  try clear c12b0
  try clear c14
  try clear c14b0
  try clear c16
  try clear c16b0
  try clear c18
  try clear c18b0
  try clear hcz11_0
  try clear hcz11_1
  try clear hcz11_2
  try clear hcz11_3
  try clear hcz11_4
  try clear hcz11_5
  try clear hcz11_6
  try clear hcz11_7
  try clear hcz11_8
  try clear hcz11_9
  try clear hcz13_0
  try clear hcz13_1
  try clear hcz13_2
  try clear hcz13_3
  try clear hcz13_4
  try clear hcz13_5
  try clear hcz13_6
  try clear hcz13_7
  try clear hcz13_8
  try clear hcz13_9
  try clear hcz15_0
  try clear hcz15_1
  try clear hcz15_2
  try clear hcz15_3
  try clear hcz15_4
  try clear hcz15_5
  try clear hcz15_6
  try clear hcz15_7
  try clear hcz15_8
  try clear hcz15_9
  try clear hcz17_0
  try clear hcz17_1
  try clear hcz17_2
  try clear hcz17_3
  try clear hcz17_4
  try clear hcz17_5
  try clear hcz17_6
  try clear hcz17_7
  try clear hcz17_8
  try clear hcz17_9
  try clear hcz19_0
  try clear hcz19_1
  try clear hcz19_2
  try clear hcz19_3
  try clear hcz19_4
  try clear hcz19_5
  try clear hcz19_6
  try clear hcz19_7
  try clear hcz19_8
  try clear hcz19_9
  try clear hcz20_0
  try clear hcz20_1
  try clear hcz20_2
  try clear hcz20_3
  try clear hcz20_4
  try clear hcz20_5
  try clear hcz20_6
  try clear hcz20_7
  try clear hcz20_8
  try clear hcz20_9
  try clear hcz21_0
  try clear hcz21_1
  try clear hcz21_2
  try clear hcz21_3
  try clear hcz21_4
  try clear hcz21_5
  try clear hcz21_6
  try clear hcz21_7
  try clear hcz21_8
  try clear hcz21_9
  try clear hcz5_0
  try clear hcz5_1
  try clear hcz5_2
  try clear hcz5_3
  try clear hcz5_4
  try clear hcz5_5
  try clear hcz5_6
  try clear hcz5_7
  try clear hcz5_8
  try clear hcz5_9
  try clear hcz7_0
  try clear hcz7_1
  try clear hcz7_2
  try clear hcz7_3
  try clear hcz7_4
  try clear hcz7_5
  try clear hcz7_6
  try clear hcz7_7
  try clear hcz7_8
  try clear hcz7_9
  try clear hfz11_0
  try clear hfz11_1
  try clear hfz11_2
  try clear hfz11_3
  try clear hfz11_4
  try clear hfz11_5
  try clear hfz11_6
  try clear hfz11_7
  try clear hfz11_8
  try clear hfz11_9
  try clear hfz13_0
  try clear hfz13_1
  try clear hfz13_2
  try clear hfz13_3
  try clear hfz13_4
  try clear hfz13_5
  try clear hfz13_6
  try clear hfz13_7
  try clear hfz13_8
  try clear hfz13_9
  try clear hfz15_0
  try clear hfz15_1
  try clear hfz15_2
  try clear hfz15_3
  try clear hfz15_4
  try clear hfz15_5
  try clear hfz15_6
  try clear hfz15_7
  try clear hfz15_8
  try clear hfz15_9
  try clear hfz17_0
  try clear hfz17_1
  try clear hfz17_2
  try clear hfz17_3
  try clear hfz17_4
  try clear hfz17_5
  try clear hfz17_6
  try clear hfz17_7
  try clear hfz17_8
  try clear hfz17_9
  try clear hfz19_0
  try clear hfz19_1
  try clear hfz19_2
  try clear hfz19_3
  try clear hfz19_4
  try clear hfz19_5
  try clear hfz19_6
  try clear hfz19_7
  try clear hfz19_8
  try clear hfz19_9
  try clear hfz20_0
  try clear hfz20_1
  try clear hfz20_2
  try clear hfz20_3
  try clear hfz20_4
  try clear hfz20_5
  try clear hfz20_6
  try clear hfz20_7
  try clear hfz20_8
  try clear hfz20_9
  try clear hfz21_0
  try clear hfz21_1
  try clear hfz21_2
  try clear hfz21_3
  try clear hfz21_4
  try clear hfz21_5
  try clear hfz21_6
  try clear hfz21_7
  try clear hfz21_8
  try clear hfz21_9
  try clear hfz5_0
  try clear hfz5_1
  try clear hfz5_2
  try clear hfz5_3
  try clear hfz5_4
  try clear hfz5_5
  try clear hfz5_6
  try clear hfz5_7
  try clear hfz5_8
  try clear hfz5_9
  try clear hfz7_0
  try clear hfz7_1
  try clear hfz7_2
  try clear hfz7_3
  try clear hfz7_4
  try clear hfz7_5
  try clear hfz7_6
  try clear hfz7_7
  try clear hfz7_8
  try clear hfz7_9
  obtain ⟨kq, x51_1, rfl, HA, HJ1, BK234, HB⟩ := hcut
  cases kq with
  | zero => exact absurd HA.out (by simp [rhyneref08_Right.j0])
  | succ kj1 =>
   have H := HA.out
   clear HA
   simp only [rhyneref08_Right.j0] at H
   by_cases c22 : x51_1 = true
   ·
    subst c22
    have H1 : (some false) = some r := by rw [if_pos rfl] at H; exact H
    clear H
    have H := H1
    clear H1
    obtain rfl := Option.some.inj H
    go_wp2
    go_ret
    exact ⟨by first | rfl | (simp [errW_none, errW_some] <;> rfl) | (simp [*, errW_none, errW_some] <;> rfl), by repeat (first | (with_reducible first | exact HB.out | apply below_alloc | apply pw_below_drewN | apply below_drew1 | refine below_set ?_ GE234.out) | exact HB.out)⟩
   ·
    replace c22 := Bool.eq_false_iff.mpr c22
    subst c22
    have H1 : (rhyneref08_Right.l0 kj1 0 a0_0 a0_1 a0_2 a0_3 a0_4 a0_5 a0_6 a0_7 a0_8 l0_9) = some r := by rw [if_neg (show ¬ (false = true) by decide)] at H; exact H
    clear H
    have H := H1
    clear H1
    have H' := Aside0.mk H
    clear H
    go_wp2
    go_loopg [3] kj1 (fun kq v3 w' => ∃ (x3_2 : Int), v3 = .int .i64 x3_2 ∧ Aside0 (rhyneref08_Right.l0 kq x3_2 a0_0 a0_1 a0_2 a0_3 a0_4 a0_5 a0_6 a0_7 a0_8 l0_9 = some r) ∧ Aside0 (kq ≤ kj1) ∧ Aside0 (w'.heap[gb234]? = some (.cells #[.int .i64 a0_0, .int .i64 a0_1, .string a0_2, .string a0_3, .string a0_4, .int .i64 a0_5, .int .i64 a0_6, .int .i64 a0_7, .bool a0_8, (.slice A0_9 l0_9.length c0_9)] 24 (0, 0))) ∧ Aside0 (Below w.heap.size w w'))
    case atStart => exact ⟨(0), (by first | rfl | (simp; done) | (simp [*]; done)), H', ⟨Nat.le_refl _⟩, ⟨by (with_reducible repeat (first | refine blk_drewN ?_ _ | refine blk_drew ?_ | refine blk_alloc ?_ _)); exact BK234.out⟩, ⟨by repeat (first | (with_reducible first | exact HB.out | apply below_alloc | apply pw_below_drewN | apply below_drew1 | refine below_set ?_ GE234.out) | exact HB.out)⟩⟩
    case round => as_aux_lemma =>
     clear H'
     try clear c1
     try clear c2
     try clear p2
     try clear c3
     try clear c4
     try clear c4b0
     try clear c4b1
     try clear c6
     try clear c6b0
     try clear c6b1
     try clear c9
     try clear c10
     try clear c10b0
     try clear c10b1
     try clear c12
     try clear c12b0
     try clear c14
     try clear c14b0
     try clear c16
     try clear c16b0
     try clear c18
     try clear c18b0
     try clear c22
     try clear hcz11_0
     try clear hcz11_1
     try clear hcz11_2
     try clear hcz11_3
     try clear hcz11_4
     try clear hcz11_5
     try clear hcz11_6
     try clear hcz11_7
     try clear hcz11_8
     try clear hcz11_9
     try clear hcz13_0
     try clear hcz13_1
     try clear hcz13_2
     try clear hcz13_3
     try clear hcz13_4
     try clear hcz13_5
     try clear hcz13_6
     try clear hcz13_7
     try clear hcz13_8
     try clear hcz13_9
     try clear hcz15_0
     try clear hcz15_1
     try clear hcz15_2
     try clear hcz15_3
     try clear hcz15_4
     try clear hcz15_5
     try clear hcz15_6
     try clear hcz15_7
     try clear hcz15_8
     try clear hcz15_9
     try clear hcz17_0
     try clear hcz17_1
     try clear hcz17_2
     try clear hcz17_3
     try clear hcz17_4
     try clear hcz17_5
     try clear hcz17_6
     try clear hcz17_7
     try clear hcz17_8
     try clear hcz17_9
     try clear hcz19_0
     try clear hcz19_1
     try clear hcz19_2
     try clear hcz19_3
     try clear hcz19_4
     try clear hcz19_5
     try clear hcz19_6
     try clear hcz19_7
     try clear hcz19_8
     try clear hcz19_9
     try clear hcz20_0
     try clear hcz20_1
     try clear hcz20_2
     try clear hcz20_3
     try clear hcz20_4
     try clear hcz20_5
     try clear hcz20_6
     try clear hcz20_7
     try clear hcz20_8
     try clear hcz20_9
     try clear hcz21_0
     try clear hcz21_1
     try clear hcz21_2
     try clear hcz21_3
     try clear hcz21_4
     try clear hcz21_5
     try clear hcz21_6
     try clear hcz21_7
     try clear hcz21_8
     try clear hcz21_9
     try clear hcz5_0
     try clear hcz5_1
     try clear hcz5_2
     try clear hcz5_3
     try clear hcz5_4
     try clear hcz5_5
     try clear hcz5_6
     try clear hcz5_7
     try clear hcz5_8
     try clear hcz5_9
     try clear hcz7_0
     try clear hcz7_1
     try clear hcz7_2
     try clear hcz7_3
     try clear hcz7_4
     try clear hcz7_5
     try clear hcz7_6
     try clear hcz7_7
     try clear hcz7_8
     try clear hcz7_9
     try clear hfz11_0
     try clear hfz11_1
     try clear hfz11_2
     try clear hfz11_3
     try clear hfz11_4
     try clear hfz11_5
     try clear hfz11_6
     try clear hfz11_7
     try clear hfz11_8
     try clear hfz11_9
     try clear hfz13_0
     try clear hfz13_1
     try clear hfz13_2
     try clear hfz13_3
     try clear hfz13_4
     try clear hfz13_5
     try clear hfz13_6
     try clear hfz13_7
     try clear hfz13_8
     try clear hfz13_9
     try clear hfz15_0
     try clear hfz15_1
     try clear hfz15_2
     try clear hfz15_3
     try clear hfz15_4
     try clear hfz15_5
     try clear hfz15_6
     try clear hfz15_7
     try clear hfz15_8
     try clear hfz15_9
     try clear hfz17_0
     try clear hfz17_1
     try clear hfz17_2
     try clear hfz17_3
     try clear hfz17_4
     try clear hfz17_5
     try clear hfz17_6
     try clear hfz17_7
     try clear hfz17_8
     try clear hfz17_9
     try clear hfz19_0
     try clear hfz19_1
     try clear hfz19_2
     try clear hfz19_3
     try clear hfz19_4
     try clear hfz19_5
     try clear hfz19_6
     try clear hfz19_7
     try clear hfz19_8
     try clear hfz19_9
     try clear hfz20_0
     try clear hfz20_1
     try clear hfz20_2
     try clear hfz20_3
     try clear hfz20_4
     try clear hfz20_5
     try clear hfz20_6
     try clear hfz20_7
     try clear hfz20_8
     try clear hfz20_9
     try clear hfz21_0
     try clear hfz21_1
     try clear hfz21_2
     try clear hfz21_3
     try clear hfz21_4
     try clear hfz21_5
     try clear hfz21_6
     try clear hfz21_7
     try clear hfz21_8
     try clear hfz21_9
     try clear hfz5_0
     try clear hfz5_1
     try clear hfz5_2
     try clear hfz5_3
     try clear hfz5_4
     try clear hfz5_5
     try clear hfz5_6
     try clear hfz5_7
     try clear hfz5_8
     try clear hfz5_9
     try clear hfz7_0
     try clear hfz7_1
     try clear hfz7_2
     try clear hfz7_3
     try clear hfz7_4
     try clear hfz7_5
     try clear hfz7_6
     try clear hfz7_7
     try clear hfz7_8
     try clear hfz7_9
     try clear p2
     obtain ⟨x3_2, rfl, HA, HK2, BK234, HB⟩ := hrel
     cases gk with
     | zero => exact absurd HA.out (by simp [rhyneref08_Right.l0])
     | succ k2 =>
      have H := HA.out
      clear HA
      simp only [rhyneref08_Right.l0] at H
      by_cases c23 : x3_2 < (l0_9.length : Int)
      ·
       rw [if_pos c23] at H
       have c23b0 : decide (x3_2 < (l0_9.length : Int)) = true := decide_eq_true c23
       clear c23
       by_cases c24 : 0 ≤ x3_2
       ·
        rw [if_pos c24] at H
        have c24b0 : decide (0 ≤ x3_2) = true := decide_eq_true c24
        clear c24
        replace H := Option.bind_eq_some_iff.mp H
        obtain ⟨t237, A250, H⟩ := H
        replace H : (if t237 = true then (rhyneref08_Right.l0 k2 (wrap64 (x3_2 + 1)) a0_0 a0_1 a0_2 a0_3 a0_4 a0_5 a0_6 a0_7 a0_8 l0_9) else (some false)) = some r := H
        have A25 := Aside0.mk A250
        clear A250
        by_cases c26 : t237 = true
        ·
         subst c26
         have H1 : (rhyneref08_Right.l0 k2 (wrap64 (x3_2 + 1)) a0_0 a0_1 a0_2 a0_3 a0_4 a0_5 a0_6 a0_7 a0_8 l0_9) = some r := by rw [if_pos rfl] at H; exact H
         clear H
         have H := H1
         clear H1
         have H' := Aside0.mk H
         clear H
         have hcz27_0 : wr.cell? ⟨gb234, 0, none⟩ = some (.int .i64 a0_0) := (blk_cell BK234.out 0).trans rfl
         have hcz27_1 : wr.cell? ⟨gb234, 1, none⟩ = some (.int .i64 a0_1) := (blk_cell BK234.out 1).trans rfl
         have hcz27_2 : wr.cell? ⟨gb234, 2, none⟩ = some (.string a0_2) := (blk_cell BK234.out 2).trans rfl
         have hcz27_3 : wr.cell? ⟨gb234, 3, none⟩ = some (.string a0_3) := (blk_cell BK234.out 3).trans rfl
         have hcz27_4 : wr.cell? ⟨gb234, 4, none⟩ = some (.string a0_4) := (blk_cell BK234.out 4).trans rfl
         have hcz27_5 : wr.cell? ⟨gb234, 5, none⟩ = some (.int .i64 a0_5) := (blk_cell BK234.out 5).trans rfl
         have hcz27_6 : wr.cell? ⟨gb234, 6, none⟩ = some (.int .i64 a0_6) := (blk_cell BK234.out 6).trans rfl
         have hcz27_7 : wr.cell? ⟨gb234, 7, none⟩ = some (.int .i64 a0_7) := (blk_cell BK234.out 7).trans rfl
         have hcz27_8 : wr.cell? ⟨gb234, 8, none⟩ = some (.bool a0_8) := (blk_cell BK234.out 8).trans rfl
         have hcz27_9 : wr.cell? ⟨gb234, 9, none⟩ = some (.slice A0_9 l0_9.length c0_9) := (blk_cell BK234.out 9).trans rfl
         have hfz27_0 := blk_frozen BK234.out 0
         have hfz27_1 := blk_frozen BK234.out 1
         have hfz27_2 := blk_frozen BK234.out 2
         have hfz27_3 := blk_frozen BK234.out 3
         have hfz27_4 := blk_frozen BK234.out 4
         have hfz27_5 := blk_frozen BK234.out 5
         have hfz27_6 := blk_frozen BK234.out 6
         have hfz27_7 := blk_frozen BK234.out 7
         have hfz27_8 := blk_frozen BK234.out 8
         have hfz27_9 := blk_frozen BK234.out 9
         have p236 : 0 ≤ (x3_2 : Int) := of_decide_eq_true (by first | (with_reducible assumption) | assumption)
         have q236 : x3_2 < (l0_9.length : Int) := of_decide_eq_true (by first | (with_reducible assumption) | assumption)
         obtain ⟨ad236, e236, hx236_0⟩ := Kd.at_int HR0_9.out x3_2 p236 q236
         cases e236
         replace hx236_0 := (HB.out.cell (World.block_lt_of_cell? w _ hx236_0)).trans hx236_0
         replace p236 := eq_true p236
         replace q236 := eq_true q236
         go_wp2_with (first | ((with_reducible refine gate_callee (f := 51) rfl ?_); refine goesL_ (some 64) rfl rfl Tryd.func51 (by kernel_rfl) rfl #[.int .i64 (rd l0_9 x3_2)] rfl (by (try simp only [List.map_toArray, List.map_cons, List.map_nil]); first | done | rfl | (simp only [List.length_drop, List.length_take]; rfl)) ?_; (with_reducible refine (rhyneref08_word.calls (rd l0_9 x3_2) true _ A25.out).mono ?_); rintro e w' ⟨rfl, ⟨nd, rfl⟩⟩; refine ⟨_, rfl, ?_⟩))
         go_roundg k2
         case measure => have := HJ1.out; have := HK2.out; omega
         case rel => exact ⟨(wrap64 (x3_2 + 1)), (by first | rfl | (simp; done) | (simp [*]; done)), H', ⟨by have := HJ1.out; have := HK2.out; omega⟩, ⟨by (with_reducible repeat (first | refine blk_drewN ?_ _ | refine blk_drew ?_ | refine blk_alloc ?_ _)); exact BK234.out⟩, ⟨by repeat (first | (with_reducible first | exact HB.out | apply below_alloc | apply pw_below_drewN | apply below_drew1 | refine below_set ?_ GE234.out) | exact HB.out)⟩⟩
        ·
         replace c26 := Bool.eq_false_iff.mpr c26
         subst c26
         have H1 : (some false) = some r := by rw [if_neg (show ¬ (false = true) by decide)] at H; exact H
         clear H
         have H := H1
         clear H1
         obtain rfl := Option.some.inj H
         have hcz28_0 : wr.cell? ⟨gb234, 0, none⟩ = some (.int .i64 a0_0) := (blk_cell BK234.out 0).trans rfl
         have hcz28_1 : wr.cell? ⟨gb234, 1, none⟩ = some (.int .i64 a0_1) := (blk_cell BK234.out 1).trans rfl
         have hcz28_2 : wr.cell? ⟨gb234, 2, none⟩ = some (.string a0_2) := (blk_cell BK234.out 2).trans rfl
         have hcz28_3 : wr.cell? ⟨gb234, 3, none⟩ = some (.string a0_3) := (blk_cell BK234.out 3).trans rfl
         have hcz28_4 : wr.cell? ⟨gb234, 4, none⟩ = some (.string a0_4) := (blk_cell BK234.out 4).trans rfl
         have hcz28_5 : wr.cell? ⟨gb234, 5, none⟩ = some (.int .i64 a0_5) := (blk_cell BK234.out 5).trans rfl
         have hcz28_6 : wr.cell? ⟨gb234, 6, none⟩ = some (.int .i64 a0_6) := (blk_cell BK234.out 6).trans rfl
         have hcz28_7 : wr.cell? ⟨gb234, 7, none⟩ = some (.int .i64 a0_7) := (blk_cell BK234.out 7).trans rfl
         have hcz28_8 : wr.cell? ⟨gb234, 8, none⟩ = some (.bool a0_8) := (blk_cell BK234.out 8).trans rfl
         have hcz28_9 : wr.cell? ⟨gb234, 9, none⟩ = some (.slice A0_9 l0_9.length c0_9) := (blk_cell BK234.out 9).trans rfl
         have hfz28_0 := blk_frozen BK234.out 0
         have hfz28_1 := blk_frozen BK234.out 1
         have hfz28_2 := blk_frozen BK234.out 2
         have hfz28_3 := blk_frozen BK234.out 3
         have hfz28_4 := blk_frozen BK234.out 4
         have hfz28_5 := blk_frozen BK234.out 5
         have hfz28_6 := blk_frozen BK234.out 6
         have hfz28_7 := blk_frozen BK234.out 7
         have hfz28_8 := blk_frozen BK234.out 8
         have hfz28_9 := blk_frozen BK234.out 9
         have p236 : 0 ≤ (x3_2 : Int) := of_decide_eq_true (by first | (with_reducible assumption) | assumption)
         have q236 : x3_2 < (l0_9.length : Int) := of_decide_eq_true (by first | (with_reducible assumption) | assumption)
         obtain ⟨ad236, e236, hx236_0⟩ := Kd.at_int HR0_9.out x3_2 p236 q236
         cases e236
         replace hx236_0 := (HB.out.cell (World.block_lt_of_cell? w _ hx236_0)).trans hx236_0
         replace p236 := eq_true p236
         replace q236 := eq_true q236
         go_wp2_with (first | ((with_reducible refine gate_callee (f := 51) rfl ?_); refine goesL_ (some 64) rfl rfl Tryd.func51 (by kernel_rfl) rfl #[.int .i64 (rd l0_9 x3_2)] rfl (by (try simp only [List.map_toArray, List.map_cons, List.map_nil]); first | done | rfl | (simp only [List.length_drop, List.length_take]; rfl)) ?_; (with_reducible refine (rhyneref08_word.calls (rd l0_9 x3_2) false _ A25.out).mono ?_); rintro e w' ⟨rfl, ⟨nd, rfl⟩⟩; refine ⟨_, rfl, ?_⟩))
         go_ret
         exact ⟨by first | rfl | (simp [errW_none, errW_some] <;> rfl) | (simp [*, errW_none, errW_some] <;> rfl), by repeat (first | (with_reducible first | exact HB.out | apply below_alloc | apply pw_below_drewN | apply below_drew1 | refine below_set ?_ GE234.out) | exact HB.out)⟩
       ·
        rw [if_neg c24] at H
        exact absurd H (by simp)
      ·
       rw [if_neg c23] at H
       have c23b0 : decide (x3_2 < (l0_9.length : Int)) = false := decide_eq_false c23
       clear c23
       have HC29 := Aside0.mk H
       clear H
       have hcz30_0 : wr.cell? ⟨gb234, 0, none⟩ = some (.int .i64 a0_0) := (blk_cell BK234.out 0).trans rfl
       have hcz30_1 : wr.cell? ⟨gb234, 1, none⟩ = some (.int .i64 a0_1) := (blk_cell BK234.out 1).trans rfl
       have hcz30_2 : wr.cell? ⟨gb234, 2, none⟩ = some (.string a0_2) := (blk_cell BK234.out 2).trans rfl
       have hcz30_3 : wr.cell? ⟨gb234, 3, none⟩ = some (.string a0_3) := (blk_cell BK234.out 3).trans rfl
       have hcz30_4 : wr.cell? ⟨gb234, 4, none⟩ = some (.string a0_4) := (blk_cell BK234.out 4).trans rfl
       have hcz30_5 : wr.cell? ⟨gb234, 5, none⟩ = some (.int .i64 a0_5) := (blk_cell BK234.out 5).trans rfl
       have hcz30_6 : wr.cell? ⟨gb234, 6, none⟩ = some (.int .i64 a0_6) := (blk_cell BK234.out 6).trans rfl
       have hcz30_7 : wr.cell? ⟨gb234, 7, none⟩ = some (.int .i64 a0_7) := (blk_cell BK234.out 7).trans rfl
       have hcz30_8 : wr.cell? ⟨gb234, 8, none⟩ = some (.bool a0_8) := (blk_cell BK234.out 8).trans rfl
       have hcz30_9 : wr.cell? ⟨gb234, 9, none⟩ = some (.slice A0_9 l0_9.length c0_9) := (blk_cell BK234.out 9).trans rfl
       have hfz30_0 := blk_frozen BK234.out 0
       have hfz30_1 := blk_frozen BK234.out 1
       have hfz30_2 := blk_frozen BK234.out 2
       have hfz30_3 := blk_frozen BK234.out 3
       have hfz30_4 := blk_frozen BK234.out 4
       have hfz30_5 := blk_frozen BK234.out 5
       have hfz30_6 := blk_frozen BK234.out 6
       have hfz30_7 := blk_frozen BK234.out 7
       have hfz30_8 := blk_frozen BK234.out 8
       have hfz30_9 := blk_frozen BK234.out 9
       go_upto_if 68 with (fail)
       go_cut [68] (fun v68 wc => ∃ (kq : Nat) (x68_28 : Bool), v68 = .bool x68_28 ∧ Aside0 (rhyneref08_Right.j2 kq a0_0 x68_28 a0_0 a0_1 a0_2 a0_3 a0_4 a0_5 a0_6 a0_7 a0_8 l0_9 = some r) ∧ Aside0 (kq ≤ k2) ∧ Aside0 (wc.heap[gb234]? = some (.cells #[.int .i64 a0_0, .int .i64 a0_1, .string a0_2, .string a0_3, .string a0_4, .int .i64 a0_5, .int .i64 a0_6, .int .i64 a0_7, .bool a0_8, (.slice A0_9 l0_9.length c0_9)] 24 (0, 0))) ∧ Aside0 (Below w.heap.size w wc))
       case first => as_aux_lemma =>
        have H := HC29.out
        clear HC29
        by_cases c31 : a0_0 = 0
        ·
         rw [if_pos c31] at H
         have c31b0 : (a0_0 == 0) = true := beq_iff_eq.mpr c31
         have c31b1 : (a0_0 != 0) = false := bne_eq_false_iff_eq.mpr c31
         clear c31
         (first | rw [c31b0] | (simp only [i64_w, i32_w]; rw [c31b0]) | skip)
         have H' := Aside0.mk H
         clear H
         go_wp2
         go_meet
         case rel => exact ⟨_, ((a0_0 == 0)), (by first | rfl | (simp; done) | (simp [*]; done)), H', ⟨by have := HJ1.out; have := HK2.out; first | omega | exact Nat.le_refl _⟩, ⟨by (with_reducible repeat (first | refine blk_drewN ?_ _ | refine blk_drew ?_ | refine blk_alloc ?_ _)); exact BK234.out⟩, ⟨by repeat (first | (with_reducible first | exact HB.out | apply below_alloc | apply pw_below_drewN | apply below_drew1 | refine below_set ?_ GE234.out) | exact HB.out)⟩⟩
        ·
         rw [if_neg c31] at H
         have c31b0 : (a0_0 == 0) = false := beq_eq_false_iff_ne.mpr c31
         have c31b1 : (a0_0 != 0) = true := bne_iff_ne.mpr c31
         (first | rw [c31b0] | (simp only [i64_w, i32_w]; rw [c31b0]) | skip)
         by_cases c32 : a0_0 = 1
         ·
          rw [if_pos c32] at H
          have c32b0 : (a0_0 == 1) = true := beq_iff_eq.mpr c32
          have c32b1 : (a0_0 != 1) = false := bne_eq_false_iff_eq.mpr c32
          clear c32
          have H' := Aside0.mk H
          clear H
          go_wp2
          go_meet
          case rel => exact ⟨_, ((a0_0 == 1)), (by first | rfl | (simp; done) | (simp [*]; done)), H', ⟨by have := HJ1.out; have := HK2.out; first | omega | exact Nat.le_refl _⟩, ⟨by (with_reducible repeat (first | refine blk_drewN ?_ _ | refine blk_drew ?_ | refine blk_alloc ?_ _)); exact BK234.out⟩, ⟨by repeat (first | (with_reducible first | exact HB.out | apply below_alloc | apply pw_below_drewN | apply below_drew1 | refine below_set ?_ GE234.out) | exact HB.out)⟩⟩
         ·
          rw [if_neg c32] at H
          have c32b0 : (a0_0 == 1) = false := beq_eq_false_iff_ne.mpr c32
          have c32b1 : (a0_0 != 1) = true := bne_iff_ne.mpr c32
          have H' := Aside0.mk H
          clear H
          go_wp2
          go_meet
          case rel => exact ⟨_, ((a0_0 == 2)), (by first | rfl | (simp; done) | (simp [*]; done)), H', ⟨by have := HJ1.out; have := HK2.out; first | omega | exact Nat.le_refl _⟩, ⟨by (with_reducible repeat (first | refine blk_drewN ?_ _ | refine blk_drew ?_ | refine blk_alloc ?_ _)); exact BK234.out⟩, ⟨by repeat (first | (with_reducible first | exact HB.out | apply below_alloc | apply pw_below_drewN | apply below_drew1 | refine below_set ?_ GE234.out) | exact HB.out)⟩⟩
       case rest => as_aux_lemma =>
        clear HC29
        try clear c1
        try clear c2
        try clear p2
        try clear q2
        try clear hx2
        try clear c3
        try clear c4
        try clear c4b0
        try clear c4b1
        try clear c5
        try clear c6
        try clear c6b0
        try clear c6b1
        try clear p6
        try clear c9
        try clear c10
        try clear c10b0
        try clear c10b1
        try clear c12
        try clear c12b0
        try clear c14
        try clear c14b0
        try clear c16
        try clear c16b0
        try clear c18
        try clear c18b0
        try clear c22
        try clear c23
        try clear c23b0
        try clear p23
        try clear q23
        try clear hx23
        try clear c24
        try clear c24b0
        try clear c26
        try clear c31
        try clear c31b0
        try clear c31b1
        try clear c32
        try clear c32b0
        try clear c32b1
        try clear hcz11_0
        try clear hcz11_1
        try clear hcz11_2
        try clear hcz11_3
        try clear hcz11_4
        try clear hcz11_5
        try clear hcz11_6
        try clear hcz11_7
        try clear hcz11_8
        try clear hcz11_9
        try clear hcz13_0
        try clear hcz13_1
        try clear hcz13_2
        try clear hcz13_3
        try clear hcz13_4
        try clear hcz13_5
        try clear hcz13_6
        try clear hcz13_7
        try clear hcz13_8
        try clear hcz13_9
        try clear hcz15_0
        try clear hcz15_1
        try clear hcz15_2
        try clear hcz15_3
        try clear hcz15_4
        try clear hcz15_5
        try clear hcz15_6
        try clear hcz15_7
        try clear hcz15_8
        try clear hcz15_9
        try clear hcz17_0
        try clear hcz17_1
        try clear hcz17_2
        try clear hcz17_3
        try clear hcz17_4
        try clear hcz17_5
        try clear hcz17_6
        try clear hcz17_7
        try clear hcz17_8
        try clear hcz17_9
        try clear hcz19_0
        try clear hcz19_1
        try clear hcz19_2
        try clear hcz19_3
        try clear hcz19_4
        try clear hcz19_5
        try clear hcz19_6
        try clear hcz19_7
        try clear hcz19_8
        try clear hcz19_9
        try clear hcz20_0
        try clear hcz20_1
        try clear hcz20_2
        try clear hcz20_3
        try clear hcz20_4
        try clear hcz20_5
        try clear hcz20_6
        try clear hcz20_7
        try clear hcz20_8
        try clear hcz20_9
        try clear hcz21_0
        try clear hcz21_1
        try clear hcz21_2
        try clear hcz21_3
        try clear hcz21_4
        try clear hcz21_5
        try clear hcz21_6
        try clear hcz21_7
        try clear hcz21_8
        try clear hcz21_9
        try clear hcz27_0
        try clear hcz27_1
        try clear hcz27_2
        try clear hcz27_3
        try clear hcz27_4
        try clear hcz27_5
        try clear hcz27_6
        try clear hcz27_7
        try clear hcz27_8
        try clear hcz27_9
        try clear hcz28_0
        try clear hcz28_1
        try clear hcz28_2
        try clear hcz28_3
        try clear hcz28_4
        try clear hcz28_5
        try clear hcz28_6
        try clear hcz28_7
        try clear hcz28_8
        try clear hcz28_9
        try clear hcz30_0
        try clear hcz30_1
        try clear hcz30_2
        try clear hcz30_3
        try clear hcz30_4
        try clear hcz30_5
        try clear hcz30_6
        try clear hcz30_7
        try clear hcz30_8
        try clear hcz30_9
        try clear hcz5_0
        try clear hcz5_1
        try clear hcz5_2
        try clear hcz5_3
        try clear hcz5_4
        try clear hcz5_5
        try clear hcz5_6
        try clear hcz5_7
        try clear hcz5_8
        try clear hcz5_9
        try clear hcz7_0
        try clear hcz7_1
        try clear hcz7_2
        try clear hcz7_3
        try clear hcz7_4
        try clear hcz7_5
        try clear hcz7_6
        try clear hcz7_7
        try clear hcz7_8
        try clear hcz7_9
        try clear hfz11_0
        try clear hfz11_1
        try clear hfz11_2
        try clear hfz11_3
        try clear hfz11_4
        try clear hfz11_5
        try clear hfz11_6
        try clear hfz11_7
        try clear hfz11_8
        try clear hfz11_9
        try clear hfz13_0
        try clear hfz13_1
        try clear hfz13_2
        try clear hfz13_3
        try clear hfz13_4
        try clear hfz13_5
        try clear hfz13_6
        try clear hfz13_7
        try clear hfz13_8
        try clear hfz13_9
        try clear hfz15_0
        try clear hfz15_1
        try clear hfz15_2
        try clear hfz15_3
        try clear hfz15_4
        try clear hfz15_5
        try clear hfz15_6
        try clear hfz15_7
        try clear hfz15_8
        try clear hfz15_9
        try clear hfz17_0
        try clear hfz17_1
        try clear hfz17_2
        try clear hfz17_3
        try clear hfz17_4
        try clear hfz17_5
        try clear hfz17_6
        try clear hfz17_7
        try clear hfz17_8
        try clear hfz17_9
        try clear hfz19_0
        try clear hfz19_1
        try clear hfz19_2
        try clear hfz19_3
        try clear hfz19_4
        try clear hfz19_5
        try clear hfz19_6
        try clear hfz19_7
        try clear hfz19_8
        try clear hfz19_9
        try clear hfz20_0
        try clear hfz20_1
        try clear hfz20_2
        try clear hfz20_3
        try clear hfz20_4
        try clear hfz20_5
        try clear hfz20_6
        try clear hfz20_7
        try clear hfz20_8
        try clear hfz20_9
        try clear hfz21_0
        try clear hfz21_1
        try clear hfz21_2
        try clear hfz21_3
        try clear hfz21_4
        try clear hfz21_5
        try clear hfz21_6
        try clear hfz21_7
        try clear hfz21_8
        try clear hfz21_9
        try clear hfz27_0
        try clear hfz27_1
        try clear hfz27_2
        try clear hfz27_3
        try clear hfz27_4
        try clear hfz27_5
        try clear hfz27_6
        try clear hfz27_7
        try clear hfz27_8
        try clear hfz27_9
        try clear hfz28_0
        try clear hfz28_1
        try clear hfz28_2
        try clear hfz28_3
        try clear hfz28_4
        try clear hfz28_5
        try clear hfz28_6
        try clear hfz28_7
        try clear hfz28_8
        try clear hfz28_9
        try clear hfz30_0
        try clear hfz30_1
        try clear hfz30_2
        try clear hfz30_3
        try clear hfz30_4
        try clear hfz30_5
        try clear hfz30_6
        try clear hfz30_7
        try clear hfz30_8
        try clear hfz30_9
        try clear hfz5_0
        try clear hfz5_1
        try clear hfz5_2
        try clear hfz5_3
        try clear hfz5_4
        try clear hfz5_5
        try clear hfz5_6
        try clear hfz5_7
        try clear hfz5_8
        try clear hfz5_9
        try clear hfz7_0
        try clear hfz7_1
        try clear hfz7_2
        try clear hfz7_3
        try clear hfz7_4
        try clear hfz7_5
        try clear hfz7_6
        try clear hfz7_7
        try clear hfz7_8
        try clear hfz7_9
        try clear hx236_0
        try clear p2
        try clear p236
        try clear q236
        obtain ⟨kq, x68_28, rfl, HA, HJ28, BK234, HB⟩ := hcut
        cases kq with
        | zero => exact absurd HA.out (by simp [rhyneref08_Right.j2])
        | succ kj28 =>
         have H := HA.out
         clear HA
         simp only [rhyneref08_Right.j2] at H
         by_cases c33 : x68_28 = true
         ·
          subst c33
          have H1 : (if a0_1 = 0 then (some false) else (if a0_8 = true then (some false) else (if (l0_9.length : Int) = 0 then (if a0_0 = 0 then (if a0_7 ≥ 1 then (some (decide (a0_7 ≤ 4))) else (some false)) else (if a0_4.toList = ([] : List UInt8) then (if a0_7 ≥ 1 then (some (decide (a0_7 ≤ 4))) else (some false)) else (some false))) else (some false)))) = some r := by rw [if_pos rfl] at H; exact H
          clear H
          have H := H1
          clear H1
          by_cases c34 : a0_1 = 0
          ·
           rw [if_pos c34] at H
           have c34b0 : (a0_1 == 0) = true := beq_iff_eq.mpr c34
           have c34b1 : (a0_1 != 0) = false := bne_eq_false_iff_eq.mpr c34
           clear c34
           obtain rfl := Option.some.inj H
           have hcz35_0 : wc.cell? ⟨gb234, 0, none⟩ = some (.int .i64 a0_0) := (blk_cell BK234.out 0).trans rfl
           have hcz35_1 : wc.cell? ⟨gb234, 1, none⟩ = some (.int .i64 a0_1) := (blk_cell BK234.out 1).trans rfl
           have hcz35_2 : wc.cell? ⟨gb234, 2, none⟩ = some (.string a0_2) := (blk_cell BK234.out 2).trans rfl
           have hcz35_3 : wc.cell? ⟨gb234, 3, none⟩ = some (.string a0_3) := (blk_cell BK234.out 3).trans rfl
           have hcz35_4 : wc.cell? ⟨gb234, 4, none⟩ = some (.string a0_4) := (blk_cell BK234.out 4).trans rfl
           have hcz35_5 : wc.cell? ⟨gb234, 5, none⟩ = some (.int .i64 a0_5) := (blk_cell BK234.out 5).trans rfl
           have hcz35_6 : wc.cell? ⟨gb234, 6, none⟩ = some (.int .i64 a0_6) := (blk_cell BK234.out 6).trans rfl
           have hcz35_7 : wc.cell? ⟨gb234, 7, none⟩ = some (.int .i64 a0_7) := (blk_cell BK234.out 7).trans rfl
           have hcz35_8 : wc.cell? ⟨gb234, 8, none⟩ = some (.bool a0_8) := (blk_cell BK234.out 8).trans rfl
           have hcz35_9 : wc.cell? ⟨gb234, 9, none⟩ = some (.slice A0_9 l0_9.length c0_9) := (blk_cell BK234.out 9).trans rfl
           have hfz35_0 := blk_frozen BK234.out 0
           have hfz35_1 := blk_frozen BK234.out 1
           have hfz35_2 := blk_frozen BK234.out 2
           have hfz35_3 := blk_frozen BK234.out 3
           have hfz35_4 := blk_frozen BK234.out 4
           have hfz35_5 := blk_frozen BK234.out 5
           have hfz35_6 := blk_frozen BK234.out 6
           have hfz35_7 := blk_frozen BK234.out 7
           have hfz35_8 := blk_frozen BK234.out 8
           have hfz35_9 := blk_frozen BK234.out 9
           go_wp2
           go_ret
           exact ⟨by first | rfl | (simp [errW_none, errW_some] <;> rfl) | (simp [*, errW_none, errW_some] <;> rfl), by repeat (first | (with_reducible first | exact HB.out | apply below_alloc | apply pw_below_drewN | apply below_drew1 | refine below_set ?_ GE234.out) | exact HB.out)⟩
          ·
           rw [if_neg c34] at H
           have c34b0 : (a0_1 == 0) = false := beq_eq_false_iff_ne.mpr c34
           have c34b1 : (a0_1 != 0) = true := bne_iff_ne.mpr c34
           by_cases c36 : a0_8 = true
           ·
            subst c36
            have H1 : (some false) = some r := by rw [if_pos rfl] at H; exact H
            clear H
            have H := H1
            clear H1
            obtain rfl := Option.some.inj H
            have hcz37_0 : wc.cell? ⟨gb234, 0, none⟩ = some (.int .i64 a0_0) := (blk_cell BK234.out 0).trans rfl
            have hcz37_1 : wc.cell? ⟨gb234, 1, none⟩ = some (.int .i64 a0_1) := (blk_cell BK234.out 1).trans rfl
            have hcz37_2 : wc.cell? ⟨gb234, 2, none⟩ = some (.string a0_2) := (blk_cell BK234.out 2).trans rfl
            have hcz37_3 : wc.cell? ⟨gb234, 3, none⟩ = some (.string a0_3) := (blk_cell BK234.out 3).trans rfl
            have hcz37_4 : wc.cell? ⟨gb234, 4, none⟩ = some (.string a0_4) := (blk_cell BK234.out 4).trans rfl
            have hcz37_5 : wc.cell? ⟨gb234, 5, none⟩ = some (.int .i64 a0_5) := (blk_cell BK234.out 5).trans rfl
            have hcz37_6 : wc.cell? ⟨gb234, 6, none⟩ = some (.int .i64 a0_6) := (blk_cell BK234.out 6).trans rfl
            have hcz37_7 : wc.cell? ⟨gb234, 7, none⟩ = some (.int .i64 a0_7) := (blk_cell BK234.out 7).trans rfl
            have hcz37_8 : wc.cell? ⟨gb234, 8, none⟩ = some (.bool true) := (blk_cell BK234.out 8).trans rfl
            have hcz37_9 : wc.cell? ⟨gb234, 9, none⟩ = some (.slice A0_9 l0_9.length c0_9) := (blk_cell BK234.out 9).trans rfl
            have hfz37_0 := blk_frozen BK234.out 0
            have hfz37_1 := blk_frozen BK234.out 1
            have hfz37_2 := blk_frozen BK234.out 2
            have hfz37_3 := blk_frozen BK234.out 3
            have hfz37_4 := blk_frozen BK234.out 4
            have hfz37_5 := blk_frozen BK234.out 5
            have hfz37_6 := blk_frozen BK234.out 6
            have hfz37_7 := blk_frozen BK234.out 7
            have hfz37_8 := blk_frozen BK234.out 8
            have hfz37_9 := blk_frozen BK234.out 9
            go_wp2
            go_ret
            exact ⟨by first | rfl | (simp [errW_none, errW_some] <;> rfl) | (simp [*, errW_none, errW_some] <;> rfl), by repeat (first | (with_reducible first | exact HB.out | apply below_alloc | apply pw_below_drewN | apply below_drew1 | refine below_set ?_ GE234.out) | exact HB.out)⟩
           ·
            replace c36 := Bool.eq_false_iff.mpr c36
            subst c36
            have H1 : (if (l0_9.length : Int) = 0 then (if a0_0 = 0 then (if a0_7 ≥ 1 then (some (decide (a0_7 ≤ 4))) else (some false)) else (if a0_4.toList = ([] : List UInt8) then (if a0_7 ≥ 1 then (some (decide (a0_7 ≤ 4))) else (some false)) else (some false))) else (some false)) = some r := by rw [if_neg (show ¬ (false = true) by decide)] at H; exact H
            clear H
            have H := H1
            clear H1
            by_cases c38 : (l0_9.length : Int) = 0
            ·
             rw [if_pos c38] at H
             have c38b0 : ((l0_9.length : Int) == 0) = true := beq_iff_eq.mpr c38
             have c38b1 : ((l0_9.length : Int) != 0) = false := bne_eq_false_iff_eq.mpr c38
             clear c38
             by_cases c39 : a0_0 = 0
             ·
              rw [if_pos c39] at H
              have c39b0 : (a0_0 == 0) = true := beq_iff_eq.mpr c39
              have c39b1 : (a0_0 != 0) = false := bne_eq_false_iff_eq.mpr c39
              clear c39
              by_cases c40 : a0_7 ≥ 1
              ·
               rw [if_pos c40] at H
               have c40b0 : decide (1 ≤ a0_7) = true := decide_eq_true c40
               clear c40
               obtain rfl := Option.some.inj H
               have hcz41_0 : wc.cell? ⟨gb234, 0, none⟩ = some (.int .i64 a0_0) := (blk_cell BK234.out 0).trans rfl
               have hcz41_1 : wc.cell? ⟨gb234, 1, none⟩ = some (.int .i64 a0_1) := (blk_cell BK234.out 1).trans rfl
               have hcz41_2 : wc.cell? ⟨gb234, 2, none⟩ = some (.string a0_2) := (blk_cell BK234.out 2).trans rfl
               have hcz41_3 : wc.cell? ⟨gb234, 3, none⟩ = some (.string a0_3) := (blk_cell BK234.out 3).trans rfl
               have hcz41_4 : wc.cell? ⟨gb234, 4, none⟩ = some (.string a0_4) := (blk_cell BK234.out 4).trans rfl
               have hcz41_5 : wc.cell? ⟨gb234, 5, none⟩ = some (.int .i64 a0_5) := (blk_cell BK234.out 5).trans rfl
               have hcz41_6 : wc.cell? ⟨gb234, 6, none⟩ = some (.int .i64 a0_6) := (blk_cell BK234.out 6).trans rfl
               have hcz41_7 : wc.cell? ⟨gb234, 7, none⟩ = some (.int .i64 a0_7) := (blk_cell BK234.out 7).trans rfl
               have hcz41_8 : wc.cell? ⟨gb234, 8, none⟩ = some (.bool false) := (blk_cell BK234.out 8).trans rfl
               have hcz41_9 : wc.cell? ⟨gb234, 9, none⟩ = some (.slice A0_9 l0_9.length c0_9) := (blk_cell BK234.out 9).trans rfl
               have hfz41_0 := blk_frozen BK234.out 0
               have hfz41_1 := blk_frozen BK234.out 1
               have hfz41_2 := blk_frozen BK234.out 2
               have hfz41_3 := blk_frozen BK234.out 3
               have hfz41_4 := blk_frozen BK234.out 4
               have hfz41_5 := blk_frozen BK234.out 5
               have hfz41_6 := blk_frozen BK234.out 6
               have hfz41_7 := blk_frozen BK234.out 7
               have hfz41_8 := blk_frozen BK234.out 8
               have hfz41_9 := blk_frozen BK234.out 9
               go_wp2
               go_ret
               exact ⟨by first | rfl | (simp [errW_none, errW_some] <;> rfl) | (simp [*, errW_none, errW_some] <;> rfl), by repeat (first | (with_reducible first | exact HB.out | apply below_alloc | apply pw_below_drewN | apply below_drew1 | refine below_set ?_ GE234.out) | exact HB.out)⟩
              ·
               rw [if_neg c40] at H
               have c40b0 : decide (1 ≤ a0_7) = false := decide_eq_false c40
               clear c40
               obtain rfl := Option.some.inj H
               have hcz42_0 : wc.cell? ⟨gb234, 0, none⟩ = some (.int .i64 a0_0) := (blk_cell BK234.out 0).trans rfl
               have hcz42_1 : wc.cell? ⟨gb234, 1, none⟩ = some (.int .i64 a0_1) := (blk_cell BK234.out 1).trans rfl
               have hcz42_2 : wc.cell? ⟨gb234, 2, none⟩ = some (.string a0_2) := (blk_cell BK234.out 2).trans rfl
               have hcz42_3 : wc.cell? ⟨gb234, 3, none⟩ = some (.string a0_3) := (blk_cell BK234.out 3).trans rfl
               have hcz42_4 : wc.cell? ⟨gb234, 4, none⟩ = some (.string a0_4) := (blk_cell BK234.out 4).trans rfl
               have hcz42_5 : wc.cell? ⟨gb234, 5, none⟩ = some (.int .i64 a0_5) := (blk_cell BK234.out 5).trans rfl
               have hcz42_6 : wc.cell? ⟨gb234, 6, none⟩ = some (.int .i64 a0_6) := (blk_cell BK234.out 6).trans rfl
               have hcz42_7 : wc.cell? ⟨gb234, 7, none⟩ = some (.int .i64 a0_7) := (blk_cell BK234.out 7).trans rfl
               have hcz42_8 : wc.cell? ⟨gb234, 8, none⟩ = some (.bool false) := (blk_cell BK234.out 8).trans rfl
               have hcz42_9 : wc.cell? ⟨gb234, 9, none⟩ = some (.slice A0_9 l0_9.length c0_9) := (blk_cell BK234.out 9).trans rfl
               have hfz42_0 := blk_frozen BK234.out 0
               have hfz42_1 := blk_frozen BK234.out 1
               have hfz42_2 := blk_frozen BK234.out 2
               have hfz42_3 := blk_frozen BK234.out 3
               have hfz42_4 := blk_frozen BK234.out 4
               have hfz42_5 := blk_frozen BK234.out 5
               have hfz42_6 := blk_frozen BK234.out 6
               have hfz42_7 := blk_frozen BK234.out 7
               have hfz42_8 := blk_frozen BK234.out 8
               have hfz42_9 := blk_frozen BK234.out 9
               go_wp2
               go_ret
               exact ⟨by first | rfl | (simp [errW_none, errW_some] <;> rfl) | (simp [*, errW_none, errW_some] <;> rfl), by repeat (first | (with_reducible first | exact HB.out | apply below_alloc | apply pw_below_drewN | apply below_drew1 | refine below_set ?_ GE234.out) | exact HB.out)⟩
             ·
              rw [if_neg c39] at H
              have c39b0 : (a0_0 == 0) = false := beq_eq_false_iff_ne.mpr c39
              have c39b1 : (a0_0 != 0) = true := bne_iff_ne.mpr c39
              by_cases c43 : a0_4.toList = ([] : List UInt8)
              ·
               rw [if_pos c43] at H
               have c43b0 : (a0_4.toList == ([] : List UInt8)) = true := beq_iff_eq.mpr c43
               have c43b1 : (a0_4.toList != ([] : List UInt8)) = false := bne_eq_false_iff_eq.mpr c43
               clear c43
               by_cases c44 : a0_7 ≥ 1
               ·
                rw [if_pos c44] at H
                have c44b0 : decide (1 ≤ a0_7) = true := decide_eq_true c44
                clear c44
                obtain rfl := Option.some.inj H
                have hcz45_0 : wc.cell? ⟨gb234, 0, none⟩ = some (.int .i64 a0_0) := (blk_cell BK234.out 0).trans rfl
                have hcz45_1 : wc.cell? ⟨gb234, 1, none⟩ = some (.int .i64 a0_1) := (blk_cell BK234.out 1).trans rfl
                have hcz45_2 : wc.cell? ⟨gb234, 2, none⟩ = some (.string a0_2) := (blk_cell BK234.out 2).trans rfl
                have hcz45_3 : wc.cell? ⟨gb234, 3, none⟩ = some (.string a0_3) := (blk_cell BK234.out 3).trans rfl
                have hcz45_4 : wc.cell? ⟨gb234, 4, none⟩ = some (.string a0_4) := (blk_cell BK234.out 4).trans rfl
                have hcz45_5 : wc.cell? ⟨gb234, 5, none⟩ = some (.int .i64 a0_5) := (blk_cell BK234.out 5).trans rfl
                have hcz45_6 : wc.cell? ⟨gb234, 6, none⟩ = some (.int .i64 a0_6) := (blk_cell BK234.out 6).trans rfl
                have hcz45_7 : wc.cell? ⟨gb234, 7, none⟩ = some (.int .i64 a0_7) := (blk_cell BK234.out 7).trans rfl
                have hcz45_8 : wc.cell? ⟨gb234, 8, none⟩ = some (.bool false) := (blk_cell BK234.out 8).trans rfl
                have hcz45_9 : wc.cell? ⟨gb234, 9, none⟩ = some (.slice A0_9 l0_9.length c0_9) := (blk_cell BK234.out 9).trans rfl
                have hfz45_0 := blk_frozen BK234.out 0
                have hfz45_1 := blk_frozen BK234.out 1
                have hfz45_2 := blk_frozen BK234.out 2
                have hfz45_3 := blk_frozen BK234.out 3
                have hfz45_4 := blk_frozen BK234.out 4
                have hfz45_5 := blk_frozen BK234.out 5
                have hfz45_6 := blk_frozen BK234.out 6
                have hfz45_7 := blk_frozen BK234.out 7
                have hfz45_8 := blk_frozen BK234.out 8
                have hfz45_9 := blk_frozen BK234.out 9
                go_wp2
                go_ret
                exact ⟨by first | rfl | (simp [errW_none, errW_some] <;> rfl) | (simp [*, errW_none, errW_some] <;> rfl), by repeat (first | (with_reducible first | exact HB.out | apply below_alloc | apply pw_below_drewN | apply below_drew1 | refine below_set ?_ GE234.out) | exact HB.out)⟩
               ·
                rw [if_neg c44] at H
                have c44b0 : decide (1 ≤ a0_7) = false := decide_eq_false c44
                clear c44
                obtain rfl := Option.some.inj H
                have hcz46_0 : wc.cell? ⟨gb234, 0, none⟩ = some (.int .i64 a0_0) := (blk_cell BK234.out 0).trans rfl
                have hcz46_1 : wc.cell? ⟨gb234, 1, none⟩ = some (.int .i64 a0_1) := (blk_cell BK234.out 1).trans rfl
                have hcz46_2 : wc.cell? ⟨gb234, 2, none⟩ = some (.string a0_2) := (blk_cell BK234.out 2).trans rfl
                have hcz46_3 : wc.cell? ⟨gb234, 3, none⟩ = some (.string a0_3) := (blk_cell BK234.out 3).trans rfl
                have hcz46_4 : wc.cell? ⟨gb234, 4, none⟩ = some (.string a0_4) := (blk_cell BK234.out 4).trans rfl
                have hcz46_5 : wc.cell? ⟨gb234, 5, none⟩ = some (.int .i64 a0_5) := (blk_cell BK234.out 5).trans rfl
                have hcz46_6 : wc.cell? ⟨gb234, 6, none⟩ = some (.int .i64 a0_6) := (blk_cell BK234.out 6).trans rfl
                have hcz46_7 : wc.cell? ⟨gb234, 7, none⟩ = some (.int .i64 a0_7) := (blk_cell BK234.out 7).trans rfl
                have hcz46_8 : wc.cell? ⟨gb234, 8, none⟩ = some (.bool false) := (blk_cell BK234.out 8).trans rfl
                have hcz46_9 : wc.cell? ⟨gb234, 9, none⟩ = some (.slice A0_9 l0_9.length c0_9) := (blk_cell BK234.out 9).trans rfl
                have hfz46_0 := blk_frozen BK234.out 0
                have hfz46_1 := blk_frozen BK234.out 1
                have hfz46_2 := blk_frozen BK234.out 2
                have hfz46_3 := blk_frozen BK234.out 3
                have hfz46_4 := blk_frozen BK234.out 4
                have hfz46_5 := blk_frozen BK234.out 5
                have hfz46_6 := blk_frozen BK234.out 6
                have hfz46_7 := blk_frozen BK234.out 7
                have hfz46_8 := blk_frozen BK234.out 8
                have hfz46_9 := blk_frozen BK234.out 9
                go_wp2
                go_ret
                exact ⟨by first | rfl | (simp [errW_none, errW_some] <;> rfl) | (simp [*, errW_none, errW_some] <;> rfl), by repeat (first | (with_reducible first | exact HB.out | apply below_alloc | apply pw_below_drewN | apply below_drew1 | refine below_set ?_ GE234.out) | exact HB.out)⟩
              ·
               rw [if_neg c43] at H
               have c43b0 : (a0_4.toList == ([] : List UInt8)) = false := beq_eq_false_iff_ne.mpr c43
               have c43b1 : (a0_4.toList != ([] : List UInt8)) = true := bne_iff_ne.mpr c43
               obtain rfl := Option.some.inj H
               have hcz47_0 : wc.cell? ⟨gb234, 0, none⟩ = some (.int .i64 a0_0) := (blk_cell BK234.out 0).trans rfl
               have hcz47_1 : wc.cell? ⟨gb234, 1, none⟩ = some (.int .i64 a0_1) := (blk_cell BK234.out 1).trans rfl
               have hcz47_2 : wc.cell? ⟨gb234, 2, none⟩ = some (.string a0_2) := (blk_cell BK234.out 2).trans rfl
               have hcz47_3 : wc.cell? ⟨gb234, 3, none⟩ = some (.string a0_3) := (blk_cell BK234.out 3).trans rfl
               have hcz47_4 : wc.cell? ⟨gb234, 4, none⟩ = some (.string a0_4) := (blk_cell BK234.out 4).trans rfl
               have hcz47_5 : wc.cell? ⟨gb234, 5, none⟩ = some (.int .i64 a0_5) := (blk_cell BK234.out 5).trans rfl
               have hcz47_6 : wc.cell? ⟨gb234, 6, none⟩ = some (.int .i64 a0_6) := (blk_cell BK234.out 6).trans rfl
               have hcz47_7 : wc.cell? ⟨gb234, 7, none⟩ = some (.int .i64 a0_7) := (blk_cell BK234.out 7).trans rfl
               have hcz47_8 : wc.cell? ⟨gb234, 8, none⟩ = some (.bool false) := (blk_cell BK234.out 8).trans rfl
               have hcz47_9 : wc.cell? ⟨gb234, 9, none⟩ = some (.slice A0_9 l0_9.length c0_9) := (blk_cell BK234.out 9).trans rfl
               have hfz47_0 := blk_frozen BK234.out 0
               have hfz47_1 := blk_frozen BK234.out 1
               have hfz47_2 := blk_frozen BK234.out 2
               have hfz47_3 := blk_frozen BK234.out 3
               have hfz47_4 := blk_frozen BK234.out 4
               have hfz47_5 := blk_frozen BK234.out 5
               have hfz47_6 := blk_frozen BK234.out 6
               have hfz47_7 := blk_frozen BK234.out 7
               have hfz47_8 := blk_frozen BK234.out 8
               have hfz47_9 := blk_frozen BK234.out 9
               go_wp2
               go_ret
               exact ⟨by first | rfl | (simp [errW_none, errW_some] <;> rfl) | (simp [*, errW_none, errW_some] <;> rfl), by repeat (first | (with_reducible first | exact HB.out | apply below_alloc | apply pw_below_drewN | apply below_drew1 | refine below_set ?_ GE234.out) | exact HB.out)⟩
            ·
             rw [if_neg c38] at H
             have c38b0 : ((l0_9.length : Int) == 0) = false := beq_eq_false_iff_ne.mpr c38
             have c38b1 : ((l0_9.length : Int) != 0) = true := bne_iff_ne.mpr c38
             have c38b2 : ¬ (l0_9 = []) := fun h_ => c38 (by rw [h_]; rfl)
             obtain rfl := Option.some.inj H
             have hcz48_0 : wc.cell? ⟨gb234, 0, none⟩ = some (.int .i64 a0_0) := (blk_cell BK234.out 0).trans rfl
             have hcz48_1 : wc.cell? ⟨gb234, 1, none⟩ = some (.int .i64 a0_1) := (blk_cell BK234.out 1).trans rfl
             have hcz48_2 : wc.cell? ⟨gb234, 2, none⟩ = some (.string a0_2) := (blk_cell BK234.out 2).trans rfl
             have hcz48_3 : wc.cell? ⟨gb234, 3, none⟩ = some (.string a0_3) := (blk_cell BK234.out 3).trans rfl
             have hcz48_4 : wc.cell? ⟨gb234, 4, none⟩ = some (.string a0_4) := (blk_cell BK234.out 4).trans rfl
             have hcz48_5 : wc.cell? ⟨gb234, 5, none⟩ = some (.int .i64 a0_5) := (blk_cell BK234.out 5).trans rfl
             have hcz48_6 : wc.cell? ⟨gb234, 6, none⟩ = some (.int .i64 a0_6) := (blk_cell BK234.out 6).trans rfl
             have hcz48_7 : wc.cell? ⟨gb234, 7, none⟩ = some (.int .i64 a0_7) := (blk_cell BK234.out 7).trans rfl
             have hcz48_8 : wc.cell? ⟨gb234, 8, none⟩ = some (.bool false) := (blk_cell BK234.out 8).trans rfl
             have hcz48_9 : wc.cell? ⟨gb234, 9, none⟩ = some (.slice A0_9 l0_9.length c0_9) := (blk_cell BK234.out 9).trans rfl
             have hfz48_0 := blk_frozen BK234.out 0
             have hfz48_1 := blk_frozen BK234.out 1
             have hfz48_2 := blk_frozen BK234.out 2
             have hfz48_3 := blk_frozen BK234.out 3
             have hfz48_4 := blk_frozen BK234.out 4
             have hfz48_5 := blk_frozen BK234.out 5
             have hfz48_6 := blk_frozen BK234.out 6
             have hfz48_7 := blk_frozen BK234.out 7
             have hfz48_8 := blk_frozen BK234.out 8
             have hfz48_9 := blk_frozen BK234.out 9
             go_wp2
             go_ret
             exact ⟨by first | rfl | (simp [errW_none, errW_some] <;> rfl) | (simp [*, errW_none, errW_some] <;> rfl), by repeat (first | (with_reducible first | exact HB.out | apply below_alloc | apply pw_below_drewN | apply below_drew1 | refine below_set ?_ GE234.out) | exact HB.out)⟩
         ·
          replace c33 := Bool.eq_false_iff.mpr c33
          subst c33
          have H1 : (if a0_0 = 3 then (if a0_1 = 0 then (some false) else (if a0_5 = 0 then (if a0_6 = 0 then (if a0_7 = 0 then (if a0_8 = true then (some false) else (some ((l0_9.length : Int) == 0))) else (some false)) else (some false)) else (some false))) else (if a0_0 = 4 then (if a0_1 = 0 then (if a0_5 = 0 then (if a0_3.toList = ([] : List UInt8) then (if a0_4.toList = ([] : List UInt8) then (if (l0_9.length : Int) = 0 then (if a0_7 ≥ 1 then (some (decide (a0_7 ≤ 4))) else (some false)) else (some false)) else (some false)) else (some false)) else (some false)) else (some false)) else (if a0_0 = 5 then (if a0_1 = 0 then (if a0_5 = 0 then (if a0_6 = 0 then (if a0_7 = 0 then (if a0_8 = true then (some false) else (if a0_4.toList = ([] : List UInt8) then (some (decide ((l0_9.length : Int) > 0))) else (some false))) else (some false)) else (some false)) else (some false)) else (some false)) else (some false)))) = some r := by rw [if_neg (show ¬ (false = true) by decide)] at H; exact H
          clear H
          have H := H1
          clear H1
          by_cases c49 : a0_0 = 3
          ·
           rw [if_pos c49] at H
           have c49b0 : (a0_0 == 3) = true := beq_iff_eq.mpr c49
           have c49b1 : (a0_0 != 3) = false := bne_eq_false_iff_eq.mpr c49
           clear c49
           by_cases c50 : a0_1 = 0
           ·
            rw [if_pos c50] at H
            have c50b0 : (a0_1 == 0) = true := beq_iff_eq.mpr c50
            have c50b1 : (a0_1 != 0) = false := bne_eq_false_iff_eq.mpr c50
            clear c50
            obtain rfl := Option.some.inj H
            have hcz51_0 : wc.cell? ⟨gb234, 0, none⟩ = some (.int .i64 a0_0) := (blk_cell BK234.out 0).trans rfl
            have hcz51_1 : wc.cell? ⟨gb234, 1, none⟩ = some (.int .i64 a0_1) := (blk_cell BK234.out 1).trans rfl
            have hcz51_2 : wc.cell? ⟨gb234, 2, none⟩ = some (.string a0_2) := (blk_cell BK234.out 2).trans rfl
            have hcz51_3 : wc.cell? ⟨gb234, 3, none⟩ = some (.string a0_3) := (blk_cell BK234.out 3).trans rfl
            have hcz51_4 : wc.cell? ⟨gb234, 4, none⟩ = some (.string a0_4) := (blk_cell BK234.out 4).trans rfl
            have hcz51_5 : wc.cell? ⟨gb234, 5, none⟩ = some (.int .i64 a0_5) := (blk_cell BK234.out 5).trans rfl
            have hcz51_6 : wc.cell? ⟨gb234, 6, none⟩ = some (.int .i64 a0_6) := (blk_cell BK234.out 6).trans rfl
            have hcz51_7 : wc.cell? ⟨gb234, 7, none⟩ = some (.int .i64 a0_7) := (blk_cell BK234.out 7).trans rfl
            have hcz51_8 : wc.cell? ⟨gb234, 8, none⟩ = some (.bool a0_8) := (blk_cell BK234.out 8).trans rfl
            have hcz51_9 : wc.cell? ⟨gb234, 9, none⟩ = some (.slice A0_9 l0_9.length c0_9) := (blk_cell BK234.out 9).trans rfl
            have hfz51_0 := blk_frozen BK234.out 0
            have hfz51_1 := blk_frozen BK234.out 1
            have hfz51_2 := blk_frozen BK234.out 2
            have hfz51_3 := blk_frozen BK234.out 3
            have hfz51_4 := blk_frozen BK234.out 4
            have hfz51_5 := blk_frozen BK234.out 5
            have hfz51_6 := blk_frozen BK234.out 6
            have hfz51_7 := blk_frozen BK234.out 7
            have hfz51_8 := blk_frozen BK234.out 8
            have hfz51_9 := blk_frozen BK234.out 9
            go_wp2
            go_ret
            exact ⟨by first | rfl | (simp [errW_none, errW_some] <;> rfl) | (simp [*, errW_none, errW_some] <;> rfl), by repeat (first | (with_reducible first | exact HB.out | apply below_alloc | apply pw_below_drewN | apply below_drew1 | refine below_set ?_ GE234.out) | exact HB.out)⟩
           ·
            rw [if_neg c50] at H
            have c50b0 : (a0_1 == 0) = false := beq_eq_false_iff_ne.mpr c50
            have c50b1 : (a0_1 != 0) = true := bne_iff_ne.mpr c50
            by_cases c52 : a0_5 = 0
            ·
             rw [if_pos c52] at H
             have c52b0 : (a0_5 == 0) = true := beq_iff_eq.mpr c52
             have c52b1 : (a0_5 != 0) = false := bne_eq_false_iff_eq.mpr c52
             clear c52
             by_cases c53 : a0_6 = 0
             ·
              rw [if_pos c53] at H
              have c53b0 : (a0_6 == 0) = true := beq_iff_eq.mpr c53
              have c53b1 : (a0_6 != 0) = false := bne_eq_false_iff_eq.mpr c53
              clear c53
              by_cases c54 : a0_7 = 0
              ·
               rw [if_pos c54] at H
               have c54b0 : (a0_7 == 0) = true := beq_iff_eq.mpr c54
               have c54b1 : (a0_7 != 0) = false := bne_eq_false_iff_eq.mpr c54
               clear c54
               by_cases c55 : a0_8 = true
               ·
                subst c55
                have H1 : (some false) = some r := by rw [if_pos rfl] at H; exact H
                clear H
                have H := H1
                clear H1
                obtain rfl := Option.some.inj H
                have hcz56_0 : wc.cell? ⟨gb234, 0, none⟩ = some (.int .i64 a0_0) := (blk_cell BK234.out 0).trans rfl
                have hcz56_1 : wc.cell? ⟨gb234, 1, none⟩ = some (.int .i64 a0_1) := (blk_cell BK234.out 1).trans rfl
                have hcz56_2 : wc.cell? ⟨gb234, 2, none⟩ = some (.string a0_2) := (blk_cell BK234.out 2).trans rfl
                have hcz56_3 : wc.cell? ⟨gb234, 3, none⟩ = some (.string a0_3) := (blk_cell BK234.out 3).trans rfl
                have hcz56_4 : wc.cell? ⟨gb234, 4, none⟩ = some (.string a0_4) := (blk_cell BK234.out 4).trans rfl
                have hcz56_5 : wc.cell? ⟨gb234, 5, none⟩ = some (.int .i64 a0_5) := (blk_cell BK234.out 5).trans rfl
                have hcz56_6 : wc.cell? ⟨gb234, 6, none⟩ = some (.int .i64 a0_6) := (blk_cell BK234.out 6).trans rfl
                have hcz56_7 : wc.cell? ⟨gb234, 7, none⟩ = some (.int .i64 a0_7) := (blk_cell BK234.out 7).trans rfl
                have hcz56_8 : wc.cell? ⟨gb234, 8, none⟩ = some (.bool true) := (blk_cell BK234.out 8).trans rfl
                have hcz56_9 : wc.cell? ⟨gb234, 9, none⟩ = some (.slice A0_9 l0_9.length c0_9) := (blk_cell BK234.out 9).trans rfl
                have hfz56_0 := blk_frozen BK234.out 0
                have hfz56_1 := blk_frozen BK234.out 1
                have hfz56_2 := blk_frozen BK234.out 2
                have hfz56_3 := blk_frozen BK234.out 3
                have hfz56_4 := blk_frozen BK234.out 4
                have hfz56_5 := blk_frozen BK234.out 5
                have hfz56_6 := blk_frozen BK234.out 6
                have hfz56_7 := blk_frozen BK234.out 7
                have hfz56_8 := blk_frozen BK234.out 8
                have hfz56_9 := blk_frozen BK234.out 9
                go_wp2
                go_ret
                exact ⟨by first | rfl | (simp [errW_none, errW_some] <;> rfl) | (simp [*, errW_none, errW_some] <;> rfl), by repeat (first | (with_reducible first | exact HB.out | apply below_alloc | apply pw_below_drewN | apply below_drew1 | refine below_set ?_ GE234.out) | exact HB.out)⟩
               ·
                replace c55 := Bool.eq_false_iff.mpr c55
                subst c55
                have H1 : (some ((l0_9.length : Int) == 0)) = some r := by rw [if_neg (show ¬ (false = true) by decide)] at H; exact H
                clear H
                have H := H1
                clear H1
                obtain rfl := Option.some.inj H
                have hcz57_0 : wc.cell? ⟨gb234, 0, none⟩ = some (.int .i64 a0_0) := (blk_cell BK234.out 0).trans rfl
                have hcz57_1 : wc.cell? ⟨gb234, 1, none⟩ = some (.int .i64 a0_1) := (blk_cell BK234.out 1).trans rfl
                have hcz57_2 : wc.cell? ⟨gb234, 2, none⟩ = some (.string a0_2) := (blk_cell BK234.out 2).trans rfl
                have hcz57_3 : wc.cell? ⟨gb234, 3, none⟩ = some (.string a0_3) := (blk_cell BK234.out 3).trans rfl
                have hcz57_4 : wc.cell? ⟨gb234, 4, none⟩ = some (.string a0_4) := (blk_cell BK234.out 4).trans rfl
                have hcz57_5 : wc.cell? ⟨gb234, 5, none⟩ = some (.int .i64 a0_5) := (blk_cell BK234.out 5).trans rfl
                have hcz57_6 : wc.cell? ⟨gb234, 6, none⟩ = some (.int .i64 a0_6) := (blk_cell BK234.out 6).trans rfl
                have hcz57_7 : wc.cell? ⟨gb234, 7, none⟩ = some (.int .i64 a0_7) := (blk_cell BK234.out 7).trans rfl
                have hcz57_8 : wc.cell? ⟨gb234, 8, none⟩ = some (.bool false) := (blk_cell BK234.out 8).trans rfl
                have hcz57_9 : wc.cell? ⟨gb234, 9, none⟩ = some (.slice A0_9 l0_9.length c0_9) := (blk_cell BK234.out 9).trans rfl
                have hfz57_0 := blk_frozen BK234.out 0
                have hfz57_1 := blk_frozen BK234.out 1
                have hfz57_2 := blk_frozen BK234.out 2
                have hfz57_3 := blk_frozen BK234.out 3
                have hfz57_4 := blk_frozen BK234.out 4
                have hfz57_5 := blk_frozen BK234.out 5
                have hfz57_6 := blk_frozen BK234.out 6
                have hfz57_7 := blk_frozen BK234.out 7
                have hfz57_8 := blk_frozen BK234.out 8
                have hfz57_9 := blk_frozen BK234.out 9
                go_wp2
                go_ret
                exact ⟨by first | rfl | (simp [errW_none, errW_some] <;> rfl) | (simp [*, errW_none, errW_some] <;> rfl), by repeat (first | (with_reducible first | exact HB.out | apply below_alloc | apply pw_below_drewN | apply below_drew1 | refine below_set ?_ GE234.out) | exact HB.out)⟩
              ·
               rw [if_neg c54] at H
               have c54b0 : (a0_7 == 0) = false := beq_eq_false_iff_ne.mpr c54
               have c54b1 : (a0_7 != 0) = true := bne_iff_ne.mpr c54
               obtain rfl := Option.some.inj H
               have hcz58_0 : wc.cell? ⟨gb234, 0, none⟩ = some (.int .i64 a0_0) := (blk_cell BK234.out 0).trans rfl
               have hcz58_1 : wc.cell? ⟨gb234, 1, none⟩ = some (.int .i64 a0_1) := (blk_cell BK234.out 1).trans rfl
               have hcz58_2 : wc.cell? ⟨gb234, 2, none⟩ = some (.string a0_2) := (blk_cell BK234.out 2).trans rfl
               have hcz58_3 : wc.cell? ⟨gb234, 3, none⟩ = some (.string a0_3) := (blk_cell BK234.out 3).trans rfl
               have hcz58_4 : wc.cell? ⟨gb234, 4, none⟩ = some (.string a0_4) := (blk_cell BK234.out 4).trans rfl
               have hcz58_5 : wc.cell? ⟨gb234, 5, none⟩ = some (.int .i64 a0_5) := (blk_cell BK234.out 5).trans rfl
               have hcz58_6 : wc.cell? ⟨gb234, 6, none⟩ = some (.int .i64 a0_6) := (blk_cell BK234.out 6).trans rfl
               have hcz58_7 : wc.cell? ⟨gb234, 7, none⟩ = some (.int .i64 a0_7) := (blk_cell BK234.out 7).trans rfl
               have hcz58_8 : wc.cell? ⟨gb234, 8, none⟩ = some (.bool a0_8) := (blk_cell BK234.out 8).trans rfl
               have hcz58_9 : wc.cell? ⟨gb234, 9, none⟩ = some (.slice A0_9 l0_9.length c0_9) := (blk_cell BK234.out 9).trans rfl
               have hfz58_0 := blk_frozen BK234.out 0
               have hfz58_1 := blk_frozen BK234.out 1
               have hfz58_2 := blk_frozen BK234.out 2
               have hfz58_3 := blk_frozen BK234.out 3
               have hfz58_4 := blk_frozen BK234.out 4
               have hfz58_5 := blk_frozen BK234.out 5
               have hfz58_6 := blk_frozen BK234.out 6
               have hfz58_7 := blk_frozen BK234.out 7
               have hfz58_8 := blk_frozen BK234.out 8
               have hfz58_9 := blk_frozen BK234.out 9
               go_wp2
               go_ret
               exact ⟨by first | rfl | (simp [errW_none, errW_some] <;> rfl) | (simp [*, errW_none, errW_some] <;> rfl), by repeat (first | (with_reducible first | exact HB.out | apply below_alloc | apply pw_below_drewN | apply below_drew1 | refine below_set ?_ GE234.out) | exact HB.out)⟩
             ·
              rw [if_neg c53] at H
              have c53b0 : (a0_6 == 0) = false := beq_eq_false_iff_ne.mpr c53
              have c53b1 : (a0_6 != 0) = true := bne_iff_ne.mpr c53
              obtain rfl := Option.some.inj H
              have hcz59_0 : wc.cell? ⟨gb234, 0, none⟩ = some (.int .i64 a0_0) := (blk_cell BK234.out 0).trans rfl
              have hcz59_1 : wc.cell? ⟨gb234, 1, none⟩ = some (.int .i64 a0_1) := (blk_cell BK234.out 1).trans rfl
              have hcz59_2 : wc.cell? ⟨gb234, 2, none⟩ = some (.string a0_2) := (blk_cell BK234.out 2).trans rfl
              have hcz59_3 : wc.cell? ⟨gb234, 3, none⟩ = some (.string a0_3) := (blk_cell BK234.out 3).trans rfl
              have hcz59_4 : wc.cell? ⟨gb234, 4, none⟩ = some (.string a0_4) := (blk_cell BK234.out 4).trans rfl
              have hcz59_5 : wc.cell? ⟨gb234, 5, none⟩ = some (.int .i64 a0_5) := (blk_cell BK234.out 5).trans rfl
              have hcz59_6 : wc.cell? ⟨gb234, 6, none⟩ = some (.int .i64 a0_6) := (blk_cell BK234.out 6).trans rfl
              have hcz59_7 : wc.cell? ⟨gb234, 7, none⟩ = some (.int .i64 a0_7) := (blk_cell BK234.out 7).trans rfl
              have hcz59_8 : wc.cell? ⟨gb234, 8, none⟩ = some (.bool a0_8) := (blk_cell BK234.out 8).trans rfl
              have hcz59_9 : wc.cell? ⟨gb234, 9, none⟩ = some (.slice A0_9 l0_9.length c0_9) := (blk_cell BK234.out 9).trans rfl
              have hfz59_0 := blk_frozen BK234.out 0
              have hfz59_1 := blk_frozen BK234.out 1
              have hfz59_2 := blk_frozen BK234.out 2
              have hfz59_3 := blk_frozen BK234.out 3
              have hfz59_4 := blk_frozen BK234.out 4
              have hfz59_5 := blk_frozen BK234.out 5
              have hfz59_6 := blk_frozen BK234.out 6
              have hfz59_7 := blk_frozen BK234.out 7
              have hfz59_8 := blk_frozen BK234.out 8
              have hfz59_9 := blk_frozen BK234.out 9
              go_wp2
              go_ret
              exact ⟨by first | rfl | (simp [errW_none, errW_some] <;> rfl) | (simp [*, errW_none, errW_some] <;> rfl), by repeat (first | (with_reducible first | exact HB.out | apply below_alloc | apply pw_below_drewN | apply below_drew1 | refine below_set ?_ GE234.out) | exact HB.out)⟩
            ·
             rw [if_neg c52] at H
             have c52b0 : (a0_5 == 0) = false := beq_eq_false_iff_ne.mpr c52
             have c52b1 : (a0_5 != 0) = true := bne_iff_ne.mpr c52
             obtain rfl := Option.some.inj H
             have hcz60_0 : wc.cell? ⟨gb234, 0, none⟩ = some (.int .i64 a0_0) := (blk_cell BK234.out 0).trans rfl
             have hcz60_1 : wc.cell? ⟨gb234, 1, none⟩ = some (.int .i64 a0_1) := (blk_cell BK234.out 1).trans rfl
             have hcz60_2 : wc.cell? ⟨gb234, 2, none⟩ = some (.string a0_2) := (blk_cell BK234.out 2).trans rfl
             have hcz60_3 : wc.cell? ⟨gb234, 3, none⟩ = some (.string a0_3) := (blk_cell BK234.out 3).trans rfl
             have hcz60_4 : wc.cell? ⟨gb234, 4, none⟩ = some (.string a0_4) := (blk_cell BK234.out 4).trans rfl
             have hcz60_5 : wc.cell? ⟨gb234, 5, none⟩ = some (.int .i64 a0_5) := (blk_cell BK234.out 5).trans rfl
             have hcz60_6 : wc.cell? ⟨gb234, 6, none⟩ = some (.int .i64 a0_6) := (blk_cell BK234.out 6).trans rfl
             have hcz60_7 : wc.cell? ⟨gb234, 7, none⟩ = some (.int .i64 a0_7) := (blk_cell BK234.out 7).trans rfl
             have hcz60_8 : wc.cell? ⟨gb234, 8, none⟩ = some (.bool a0_8) := (blk_cell BK234.out 8).trans rfl
             have hcz60_9 : wc.cell? ⟨gb234, 9, none⟩ = some (.slice A0_9 l0_9.length c0_9) := (blk_cell BK234.out 9).trans rfl
             have hfz60_0 := blk_frozen BK234.out 0
             have hfz60_1 := blk_frozen BK234.out 1
             have hfz60_2 := blk_frozen BK234.out 2
             have hfz60_3 := blk_frozen BK234.out 3
             have hfz60_4 := blk_frozen BK234.out 4
             have hfz60_5 := blk_frozen BK234.out 5
             have hfz60_6 := blk_frozen BK234.out 6
             have hfz60_7 := blk_frozen BK234.out 7
             have hfz60_8 := blk_frozen BK234.out 8
             have hfz60_9 := blk_frozen BK234.out 9
             go_wp2
             go_ret
             exact ⟨by first | rfl | (simp [errW_none, errW_some] <;> rfl) | (simp [*, errW_none, errW_some] <;> rfl), by repeat (first | (with_reducible first | exact HB.out | apply below_alloc | apply pw_below_drewN | apply below_drew1 | refine below_set ?_ GE234.out) | exact HB.out)⟩
          ·
           rw [if_neg c49] at H
           have c49b0 : (a0_0 == 3) = false := beq_eq_false_iff_ne.mpr c49
           have c49b1 : (a0_0 != 3) = true := bne_iff_ne.mpr c49
           by_cases c61 : a0_0 = 4
           ·
            rw [if_pos c61] at H
            have c61b0 : (a0_0 == 4) = true := beq_iff_eq.mpr c61
            have c61b1 : (a0_0 != 4) = false := bne_eq_false_iff_eq.mpr c61
            clear c61
            by_cases c62 : a0_1 = 0
            ·
             rw [if_pos c62] at H
             have c62b0 : (a0_1 == 0) = true := beq_iff_eq.mpr c62
             have c62b1 : (a0_1 != 0) = false := bne_eq_false_iff_eq.mpr c62
             clear c62
             by_cases c63 : a0_5 = 0
             ·
              rw [if_pos c63] at H
              have c63b0 : (a0_5 == 0) = true := beq_iff_eq.mpr c63
              have c63b1 : (a0_5 != 0) = false := bne_eq_false_iff_eq.mpr c63
              clear c63
              by_cases c64 : a0_3.toList = ([] : List UInt8)
              ·
               rw [if_pos c64] at H
               have c64b0 : (a0_3.toList == ([] : List UInt8)) = true := beq_iff_eq.mpr c64
               have c64b1 : (a0_3.toList != ([] : List UInt8)) = false := bne_eq_false_iff_eq.mpr c64
               clear c64
               by_cases c65 : a0_4.toList = ([] : List UInt8)
               ·
                rw [if_pos c65] at H
                have c65b0 : (a0_4.toList == ([] : List UInt8)) = true := beq_iff_eq.mpr c65
                have c65b1 : (a0_4.toList != ([] : List UInt8)) = false := bne_eq_false_iff_eq.mpr c65
                clear c65
                by_cases c66 : (l0_9.length : Int) = 0
                ·
                 rw [if_pos c66] at H
                 have c66b0 : ((l0_9.length : Int) == 0) = true := beq_iff_eq.mpr c66
                 have c66b1 : ((l0_9.length : Int) != 0) = false := bne_eq_false_iff_eq.mpr c66
                 clear c66
                 by_cases c67 : a0_7 ≥ 1
                 ·
                  rw [if_pos c67] at H
                  have c67b0 : decide (1 ≤ a0_7) = true := decide_eq_true c67
                  clear c67
                  obtain rfl := Option.some.inj H
                  have hcz68_0 : wc.cell? ⟨gb234, 0, none⟩ = some (.int .i64 a0_0) := (blk_cell BK234.out 0).trans rfl
                  have hcz68_1 : wc.cell? ⟨gb234, 1, none⟩ = some (.int .i64 a0_1) := (blk_cell BK234.out 1).trans rfl
                  have hcz68_2 : wc.cell? ⟨gb234, 2, none⟩ = some (.string a0_2) := (blk_cell BK234.out 2).trans rfl
                  have hcz68_3 : wc.cell? ⟨gb234, 3, none⟩ = some (.string a0_3) := (blk_cell BK234.out 3).trans rfl
                  have hcz68_4 : wc.cell? ⟨gb234, 4, none⟩ = some (.string a0_4) := (blk_cell BK234.out 4).trans rfl
                  have hcz68_5 : wc.cell? ⟨gb234, 5, none⟩ = some (.int .i64 a0_5) := (blk_cell BK234.out 5).trans rfl
                  have hcz68_6 : wc.cell? ⟨gb234, 6, none⟩ = some (.int .i64 a0_6) := (blk_cell BK234.out 6).trans rfl
                  have hcz68_7 : wc.cell? ⟨gb234, 7, none⟩ = some (.int .i64 a0_7) := (blk_cell BK234.out 7).trans rfl
                  have hcz68_8 : wc.cell? ⟨gb234, 8, none⟩ = some (.bool a0_8) := (blk_cell BK234.out 8).trans rfl
                  have hcz68_9 : wc.cell? ⟨gb234, 9, none⟩ = some (.slice A0_9 l0_9.length c0_9) := (blk_cell BK234.out 9).trans rfl
                  have hfz68_0 := blk_frozen BK234.out 0
                  have hfz68_1 := blk_frozen BK234.out 1
                  have hfz68_2 := blk_frozen BK234.out 2
                  have hfz68_3 := blk_frozen BK234.out 3
                  have hfz68_4 := blk_frozen BK234.out 4
                  have hfz68_5 := blk_frozen BK234.out 5
                  have hfz68_6 := blk_frozen BK234.out 6
                  have hfz68_7 := blk_frozen BK234.out 7
                  have hfz68_8 := blk_frozen BK234.out 8
                  have hfz68_9 := blk_frozen BK234.out 9
                  go_wp2
                  go_ret
                  exact ⟨by first | rfl | (simp [errW_none, errW_some] <;> rfl) | (simp [*, errW_none, errW_some] <;> rfl), by repeat (first | (with_reducible first | exact HB.out | apply below_alloc | apply pw_below_drewN | apply below_drew1 | refine below_set ?_ GE234.out) | exact HB.out)⟩
                 ·
                  rw [if_neg c67] at H
                  have c67b0 : decide (1 ≤ a0_7) = false := decide_eq_false c67
                  clear c67
                  obtain rfl := Option.some.inj H
                  have hcz69_0 : wc.cell? ⟨gb234, 0, none⟩ = some (.int .i64 a0_0) := (blk_cell BK234.out 0).trans rfl
                  have hcz69_1 : wc.cell? ⟨gb234, 1, none⟩ = some (.int .i64 a0_1) := (blk_cell BK234.out 1).trans rfl
                  have hcz69_2 : wc.cell? ⟨gb234, 2, none⟩ = some (.string a0_2) := (blk_cell BK234.out 2).trans rfl
                  have hcz69_3 : wc.cell? ⟨gb234, 3, none⟩ = some (.string a0_3) := (blk_cell BK234.out 3).trans rfl
                  have hcz69_4 : wc.cell? ⟨gb234, 4, none⟩ = some (.string a0_4) := (blk_cell BK234.out 4).trans rfl
                  have hcz69_5 : wc.cell? ⟨gb234, 5, none⟩ = some (.int .i64 a0_5) := (blk_cell BK234.out 5).trans rfl
                  have hcz69_6 : wc.cell? ⟨gb234, 6, none⟩ = some (.int .i64 a0_6) := (blk_cell BK234.out 6).trans rfl
                  have hcz69_7 : wc.cell? ⟨gb234, 7, none⟩ = some (.int .i64 a0_7) := (blk_cell BK234.out 7).trans rfl
                  have hcz69_8 : wc.cell? ⟨gb234, 8, none⟩ = some (.bool a0_8) := (blk_cell BK234.out 8).trans rfl
                  have hcz69_9 : wc.cell? ⟨gb234, 9, none⟩ = some (.slice A0_9 l0_9.length c0_9) := (blk_cell BK234.out 9).trans rfl
                  have hfz69_0 := blk_frozen BK234.out 0
                  have hfz69_1 := blk_frozen BK234.out 1
                  have hfz69_2 := blk_frozen BK234.out 2
                  have hfz69_3 := blk_frozen BK234.out 3
                  have hfz69_4 := blk_frozen BK234.out 4
                  have hfz69_5 := blk_frozen BK234.out 5
                  have hfz69_6 := blk_frozen BK234.out 6
                  have hfz69_7 := blk_frozen BK234.out 7
                  have hfz69_8 := blk_frozen BK234.out 8
                  have hfz69_9 := blk_frozen BK234.out 9
                  go_wp2
                  go_ret
                  exact ⟨by first | rfl | (simp [errW_none, errW_some] <;> rfl) | (simp [*, errW_none, errW_some] <;> rfl), by repeat (first | (with_reducible first | exact HB.out | apply below_alloc | apply pw_below_drewN | apply below_drew1 | refine below_set ?_ GE234.out) | exact HB.out)⟩
                ·
                 rw [if_neg c66] at H
                 have c66b0 : ((l0_9.length : Int) == 0) = false := beq_eq_false_iff_ne.mpr c66
                 have c66b1 : ((l0_9.length : Int) != 0) = true := bne_iff_ne.mpr c66
                 have c66b2 : ¬ (l0_9 = []) := fun h_ => c66 (by rw [h_]; rfl)
                 obtain rfl := Option.some.inj H
                 have hcz70_0 : wc.cell? ⟨gb234, 0, none⟩ = some (.int .i64 a0_0) := (blk_cell BK234.out 0).trans rfl
                 have hcz70_1 : wc.cell? ⟨gb234, 1, none⟩ = some (.int .i64 a0_1) := (blk_cell BK234.out 1).trans rfl
                 have hcz70_2 : wc.cell? ⟨gb234, 2, none⟩ = some (.string a0_2) := (blk_cell BK234.out 2).trans rfl
                 have hcz70_3 : wc.cell? ⟨gb234, 3, none⟩ = some (.string a0_3) := (blk_cell BK234.out 3).trans rfl
                 have hcz70_4 : wc.cell? ⟨gb234, 4, none⟩ = some (.string a0_4) := (blk_cell BK234.out 4).trans rfl
                 have hcz70_5 : wc.cell? ⟨gb234, 5, none⟩ = some (.int .i64 a0_5) := (blk_cell BK234.out 5).trans rfl
                 have hcz70_6 : wc.cell? ⟨gb234, 6, none⟩ = some (.int .i64 a0_6) := (blk_cell BK234.out 6).trans rfl
                 have hcz70_7 : wc.cell? ⟨gb234, 7, none⟩ = some (.int .i64 a0_7) := (blk_cell BK234.out 7).trans rfl
                 have hcz70_8 : wc.cell? ⟨gb234, 8, none⟩ = some (.bool a0_8) := (blk_cell BK234.out 8).trans rfl
                 have hcz70_9 : wc.cell? ⟨gb234, 9, none⟩ = some (.slice A0_9 l0_9.length c0_9) := (blk_cell BK234.out 9).trans rfl
                 have hfz70_0 := blk_frozen BK234.out 0
                 have hfz70_1 := blk_frozen BK234.out 1
                 have hfz70_2 := blk_frozen BK234.out 2
                 have hfz70_3 := blk_frozen BK234.out 3
                 have hfz70_4 := blk_frozen BK234.out 4
                 have hfz70_5 := blk_frozen BK234.out 5
                 have hfz70_6 := blk_frozen BK234.out 6
                 have hfz70_7 := blk_frozen BK234.out 7
                 have hfz70_8 := blk_frozen BK234.out 8
                 have hfz70_9 := blk_frozen BK234.out 9
                 go_wp2
                 go_ret
                 exact ⟨by first | rfl | (simp [errW_none, errW_some] <;> rfl) | (simp [*, errW_none, errW_some] <;> rfl), by repeat (first | (with_reducible first | exact HB.out | apply below_alloc | apply pw_below_drewN | apply below_drew1 | refine below_set ?_ GE234.out) | exact HB.out)⟩
               ·
                rw [if_neg c65] at H
                have c65b0 : (a0_4.toList == ([] : List UInt8)) = false := beq_eq_false_iff_ne.mpr c65
                have c65b1 : (a0_4.toList != ([] : List UInt8)) = true := bne_iff_ne.mpr c65
                obtain rfl := Option.some.inj H
                have hcz71_0 : wc.cell? ⟨gb234, 0, none⟩ = some (.int .i64 a0_0) := (blk_cell BK234.out 0).trans rfl
                have hcz71_1 : wc.cell? ⟨gb234, 1, none⟩ = some (.int .i64 a0_1) := (blk_cell BK234.out 1).trans rfl
                have hcz71_2 : wc.cell? ⟨gb234, 2, none⟩ = some (.string a0_2) := (blk_cell BK234.out 2).trans rfl
                have hcz71_3 : wc.cell? ⟨gb234, 3, none⟩ = some (.string a0_3) := (blk_cell BK234.out 3).trans rfl
                have hcz71_4 : wc.cell? ⟨gb234, 4, none⟩ = some (.string a0_4) := (blk_cell BK234.out 4).trans rfl
                have hcz71_5 : wc.cell? ⟨gb234, 5, none⟩ = some (.int .i64 a0_5) := (blk_cell BK234.out 5).trans rfl
                have hcz71_6 : wc.cell? ⟨gb234, 6, none⟩ = some (.int .i64 a0_6) := (blk_cell BK234.out 6).trans rfl
                have hcz71_7 : wc.cell? ⟨gb234, 7, none⟩ = some (.int .i64 a0_7) := (blk_cell BK234.out 7).trans rfl
                have hcz71_8 : wc.cell? ⟨gb234, 8, none⟩ = some (.bool a0_8) := (blk_cell BK234.out 8).trans rfl
                have hcz71_9 : wc.cell? ⟨gb234, 9, none⟩ = some (.slice A0_9 l0_9.length c0_9) := (blk_cell BK234.out 9).trans rfl
                have hfz71_0 := blk_frozen BK234.out 0
                have hfz71_1 := blk_frozen BK234.out 1
                have hfz71_2 := blk_frozen BK234.out 2
                have hfz71_3 := blk_frozen BK234.out 3
                have hfz71_4 := blk_frozen BK234.out 4
                have hfz71_5 := blk_frozen BK234.out 5
                have hfz71_6 := blk_frozen BK234.out 6
                have hfz71_7 := blk_frozen BK234.out 7
                have hfz71_8 := blk_frozen BK234.out 8
                have hfz71_9 := blk_frozen BK234.out 9
                go_wp2
                go_ret
                exact ⟨by first | rfl | (simp [errW_none, errW_some] <;> rfl) | (simp [*, errW_none, errW_some] <;> rfl), by repeat (first | (with_reducible first | exact HB.out | apply below_alloc | apply pw_below_drewN | apply below_drew1 | refine below_set ?_ GE234.out) | exact HB.out)⟩
              ·
               rw [if_neg c64] at H
               have c64b0 : (a0_3.toList == ([] : List UInt8)) = false := beq_eq_false_iff_ne.mpr c64
               have c64b1 : (a0_3.toList != ([] : List UInt8)) = true := bne_iff_ne.mpr c64
               obtain rfl := Option.some.inj H
               have hcz72_0 : wc.cell? ⟨gb234, 0, none⟩ = some (.int .i64 a0_0) := (blk_cell BK234.out 0).trans rfl
               have hcz72_1 : wc.cell? ⟨gb234, 1, none⟩ = some (.int .i64 a0_1) := (blk_cell BK234.out 1).trans rfl
               have hcz72_2 : wc.cell? ⟨gb234, 2, none⟩ = some (.string a0_2) := (blk_cell BK234.out 2).trans rfl
               have hcz72_3 : wc.cell? ⟨gb234, 3, none⟩ = some (.string a0_3) := (blk_cell BK234.out 3).trans rfl
               have hcz72_4 : wc.cell? ⟨gb234, 4, none⟩ = some (.string a0_4) := (blk_cell BK234.out 4).trans rfl
               have hcz72_5 : wc.cell? ⟨gb234, 5, none⟩ = some (.int .i64 a0_5) := (blk_cell BK234.out 5).trans rfl
               have hcz72_6 : wc.cell? ⟨gb234, 6, none⟩ = some (.int .i64 a0_6) := (blk_cell BK234.out 6).trans rfl
               have hcz72_7 : wc.cell? ⟨gb234, 7, none⟩ = some (.int .i64 a0_7) := (blk_cell BK234.out 7).trans rfl
               have hcz72_8 : wc.cell? ⟨gb234, 8, none⟩ = some (.bool a0_8) := (blk_cell BK234.out 8).trans rfl
               have hcz72_9 : wc.cell? ⟨gb234, 9, none⟩ = some (.slice A0_9 l0_9.length c0_9) := (blk_cell BK234.out 9).trans rfl
               have hfz72_0 := blk_frozen BK234.out 0
               have hfz72_1 := blk_frozen BK234.out 1
               have hfz72_2 := blk_frozen BK234.out 2
               have hfz72_3 := blk_frozen BK234.out 3
               have hfz72_4 := blk_frozen BK234.out 4
               have hfz72_5 := blk_frozen BK234.out 5
               have hfz72_6 := blk_frozen BK234.out 6
               have hfz72_7 := blk_frozen BK234.out 7
               have hfz72_8 := blk_frozen BK234.out 8
               have hfz72_9 := blk_frozen BK234.out 9
               go_wp2
               go_ret
               exact ⟨by first | rfl | (simp [errW_none, errW_some] <;> rfl) | (simp [*, errW_none, errW_some] <;> rfl), by repeat (first | (with_reducible first | exact HB.out | apply below_alloc | apply pw_below_drewN | apply below_drew1 | refine below_set ?_ GE234.out) | exact HB.out)⟩
             ·
              rw [if_neg c63] at H
              have c63b0 : (a0_5 == 0) = false := beq_eq_false_iff_ne.mpr c63
              have c63b1 : (a0_5 != 0) = true := bne_iff_ne.mpr c63
              obtain rfl := Option.some.inj H
              have hcz73_0 : wc.cell? ⟨gb234, 0, none⟩ = some (.int .i64 a0_0) := (blk_cell BK234.out 0).trans rfl
              have hcz73_1 : wc.cell? ⟨gb234, 1, none⟩ = some (.int .i64 a0_1) := (blk_cell BK234.out 1).trans rfl
              have hcz73_2 : wc.cell? ⟨gb234, 2, none⟩ = some (.string a0_2) := (blk_cell BK234.out 2).trans rfl
              have hcz73_3 : wc.cell? ⟨gb234, 3, none⟩ = some (.string a0_3) := (blk_cell BK234.out 3).trans rfl
              have hcz73_4 : wc.cell? ⟨gb234, 4, none⟩ = some (.string a0_4) := (blk_cell BK234.out 4).trans rfl
              have hcz73_5 : wc.cell? ⟨gb234, 5, none⟩ = some (.int .i64 a0_5) := (blk_cell BK234.out 5).trans rfl
              have hcz73_6 : wc.cell? ⟨gb234, 6, none⟩ = some (.int .i64 a0_6) := (blk_cell BK234.out 6).trans rfl
              have hcz73_7 : wc.cell? ⟨gb234, 7, none⟩ = some (.int .i64 a0_7) := (blk_cell BK234.out 7).trans rfl
              have hcz73_8 : wc.cell? ⟨gb234, 8, none⟩ = some (.bool a0_8) := (blk_cell BK234.out 8).trans rfl
              have hcz73_9 : wc.cell? ⟨gb234, 9, none⟩ = some (.slice A0_9 l0_9.length c0_9) := (blk_cell BK234.out 9).trans rfl
              have hfz73_0 := blk_frozen BK234.out 0
              have hfz73_1 := blk_frozen BK234.out 1
              have hfz73_2 := blk_frozen BK234.out 2
              have hfz73_3 := blk_frozen BK234.out 3
              have hfz73_4 := blk_frozen BK234.out 4
              have hfz73_5 := blk_frozen BK234.out 5
              have hfz73_6 := blk_frozen BK234.out 6
              have hfz73_7 := blk_frozen BK234.out 7
              have hfz73_8 := blk_frozen BK234.out 8
              have hfz73_9 := blk_frozen BK234.out 9
              go_wp2
              go_ret
              exact ⟨by first | rfl | (simp [errW_none, errW_some] <;> rfl) | (simp [*, errW_none, errW_some] <;> rfl), by repeat (first | (with_reducible first | exact HB.out | apply below_alloc | apply pw_below_drewN | apply below_drew1 | refine below_set ?_ GE234.out) | exact HB.out)⟩
            ·
             rw [if_neg c62] at H
             have c62b0 : (a0_1 == 0) = false := beq_eq_false_iff_ne.mpr c62
             have c62b1 : (a0_1 != 0) = true := bne_iff_ne.mpr c62
             obtain rfl := Option.some.inj H
             have hcz74_0 : wc.cell? ⟨gb234, 0, none⟩ = some (.int .i64 a0_0) := (blk_cell BK234.out 0).trans rfl
             have hcz74_1 : wc.cell? ⟨gb234, 1, none⟩ = some (.int .i64 a0_1) := (blk_cell BK234.out 1).trans rfl
             have hcz74_2 : wc.cell? ⟨gb234, 2, none⟩ = some (.string a0_2) := (blk_cell BK234.out 2).trans rfl
             have hcz74_3 : wc.cell? ⟨gb234, 3, none⟩ = some (.string a0_3) := (blk_cell BK234.out 3).trans rfl
             have hcz74_4 : wc.cell? ⟨gb234, 4, none⟩ = some (.string a0_4) := (blk_cell BK234.out 4).trans rfl
             have hcz74_5 : wc.cell? ⟨gb234, 5, none⟩ = some (.int .i64 a0_5) := (blk_cell BK234.out 5).trans rfl
             have hcz74_6 : wc.cell? ⟨gb234, 6, none⟩ = some (.int .i64 a0_6) := (blk_cell BK234.out 6).trans rfl
             have hcz74_7 : wc.cell? ⟨gb234, 7, none⟩ = some (.int .i64 a0_7) := (blk_cell BK234.out 7).trans rfl
             have hcz74_8 : wc.cell? ⟨gb234, 8, none⟩ = some (.bool a0_8) := (blk_cell BK234.out 8).trans rfl
             have hcz74_9 : wc.cell? ⟨gb234, 9, none⟩ = some (.slice A0_9 l0_9.length c0_9) := (blk_cell BK234.out 9).trans rfl
             have hfz74_0 := blk_frozen BK234.out 0
             have hfz74_1 := blk_frozen BK234.out 1
             have hfz74_2 := blk_frozen BK234.out 2
             have hfz74_3 := blk_frozen BK234.out 3
             have hfz74_4 := blk_frozen BK234.out 4
             have hfz74_5 := blk_frozen BK234.out 5
             have hfz74_6 := blk_frozen BK234.out 6
             have hfz74_7 := blk_frozen BK234.out 7
             have hfz74_8 := blk_frozen BK234.out 8
             have hfz74_9 := blk_frozen BK234.out 9
             go_wp2
             go_ret
             exact ⟨by first | rfl | (simp [errW_none, errW_some] <;> rfl) | (simp [*, errW_none, errW_some] <;> rfl), by repeat (first | (with_reducible first | exact HB.out | apply below_alloc | apply pw_below_drewN | apply below_drew1 | refine below_set ?_ GE234.out) | exact HB.out)⟩
           ·
            rw [if_neg c61] at H
            have c61b0 : (a0_0 == 4) = false := beq_eq_false_iff_ne.mpr c61
            have c61b1 : (a0_0 != 4) = true := bne_iff_ne.mpr c61
            by_cases c75 : a0_0 = 5
            ·
             rw [if_pos c75] at H
             have c75b0 : (a0_0 == 5) = true := beq_iff_eq.mpr c75
             have c75b1 : (a0_0 != 5) = false := bne_eq_false_iff_eq.mpr c75
             clear c75
             by_cases c76 : a0_1 = 0
             ·
              rw [if_pos c76] at H
              have c76b0 : (a0_1 == 0) = true := beq_iff_eq.mpr c76
              have c76b1 : (a0_1 != 0) = false := bne_eq_false_iff_eq.mpr c76
              clear c76
              by_cases c77 : a0_5 = 0
              ·
               rw [if_pos c77] at H
               have c77b0 : (a0_5 == 0) = true := beq_iff_eq.mpr c77
               have c77b1 : (a0_5 != 0) = false := bne_eq_false_iff_eq.mpr c77
               clear c77
               by_cases c78 : a0_6 = 0
               ·
                rw [if_pos c78] at H
                have c78b0 : (a0_6 == 0) = true := beq_iff_eq.mpr c78
                have c78b1 : (a0_6 != 0) = false := bne_eq_false_iff_eq.mpr c78
                clear c78
                by_cases c79 : a0_7 = 0
                ·
                 rw [if_pos c79] at H
                 have c79b0 : (a0_7 == 0) = true := beq_iff_eq.mpr c79
                 have c79b1 : (a0_7 != 0) = false := bne_eq_false_iff_eq.mpr c79
                 clear c79
                 by_cases c80 : a0_8 = true
                 ·
                  subst c80
                  have H1 : (some false) = some r := by rw [if_pos rfl] at H; exact H
                  clear H
                  have H := H1
                  clear H1
                  obtain rfl := Option.some.inj H
                  have hcz81_0 : wc.cell? ⟨gb234, 0, none⟩ = some (.int .i64 a0_0) := (blk_cell BK234.out 0).trans rfl
                  have hcz81_1 : wc.cell? ⟨gb234, 1, none⟩ = some (.int .i64 a0_1) := (blk_cell BK234.out 1).trans rfl
                  have hcz81_2 : wc.cell? ⟨gb234, 2, none⟩ = some (.string a0_2) := (blk_cell BK234.out 2).trans rfl
                  have hcz81_3 : wc.cell? ⟨gb234, 3, none⟩ = some (.string a0_3) := (blk_cell BK234.out 3).trans rfl
                  have hcz81_4 : wc.cell? ⟨gb234, 4, none⟩ = some (.string a0_4) := (blk_cell BK234.out 4).trans rfl
                  have hcz81_5 : wc.cell? ⟨gb234, 5, none⟩ = some (.int .i64 a0_5) := (blk_cell BK234.out 5).trans rfl
                  have hcz81_6 : wc.cell? ⟨gb234, 6, none⟩ = some (.int .i64 a0_6) := (blk_cell BK234.out 6).trans rfl
                  have hcz81_7 : wc.cell? ⟨gb234, 7, none⟩ = some (.int .i64 a0_7) := (blk_cell BK234.out 7).trans rfl
                  have hcz81_8 : wc.cell? ⟨gb234, 8, none⟩ = some (.bool true) := (blk_cell BK234.out 8).trans rfl
                  have hcz81_9 : wc.cell? ⟨gb234, 9, none⟩ = some (.slice A0_9 l0_9.length c0_9) := (blk_cell BK234.out 9).trans rfl
                  have hfz81_0 := blk_frozen BK234.out 0
                  have hfz81_1 := blk_frozen BK234.out 1
                  have hfz81_2 := blk_frozen BK234.out 2
                  have hfz81_3 := blk_frozen BK234.out 3
                  have hfz81_4 := blk_frozen BK234.out 4
                  have hfz81_5 := blk_frozen BK234.out 5
                  have hfz81_6 := blk_frozen BK234.out 6
                  have hfz81_7 := blk_frozen BK234.out 7
                  have hfz81_8 := blk_frozen BK234.out 8
                  have hfz81_9 := blk_frozen BK234.out 9
                  go_wp2
                  go_ret
                  exact ⟨by first | rfl | (simp [errW_none, errW_some] <;> rfl) | (simp [*, errW_none, errW_some] <;> rfl), by repeat (first | (with_reducible first | exact HB.out | apply below_alloc | apply pw_below_drewN | apply below_drew1 | refine below_set ?_ GE234.out) | exact HB.out)⟩
                 ·
                  replace c80 := Bool.eq_false_iff.mpr c80
                  subst c80
                  have H1 : (if a0_4.toList = ([] : List UInt8) then (some (decide ((l0_9.length : Int) > 0))) else (some false)) = some r := by rw [if_neg (show ¬ (false = true) by decide)] at H; exact H
                  clear H
                  have H := H1
                  clear H1
                  by_cases c82 : a0_4.toList = ([] : List UInt8)
                  ·
                   rw [if_pos c82] at H
                   have c82b0 : (a0_4.toList == ([] : List UInt8)) = true := beq_iff_eq.mpr c82
                   have c82b1 : (a0_4.toList != ([] : List UInt8)) = false := bne_eq_false_iff_eq.mpr c82
                   clear c82
                   obtain rfl := Option.some.inj H
                   have hcz83_0 : wc.cell? ⟨gb234, 0, none⟩ = some (.int .i64 a0_0) := (blk_cell BK234.out 0).trans rfl
                   have hcz83_1 : wc.cell? ⟨gb234, 1, none⟩ = some (.int .i64 a0_1) := (blk_cell BK234.out 1).trans rfl
                   have hcz83_2 : wc.cell? ⟨gb234, 2, none⟩ = some (.string a0_2) := (blk_cell BK234.out 2).trans rfl
                   have hcz83_3 : wc.cell? ⟨gb234, 3, none⟩ = some (.string a0_3) := (blk_cell BK234.out 3).trans rfl
                   have hcz83_4 : wc.cell? ⟨gb234, 4, none⟩ = some (.string a0_4) := (blk_cell BK234.out 4).trans rfl
                   have hcz83_5 : wc.cell? ⟨gb234, 5, none⟩ = some (.int .i64 a0_5) := (blk_cell BK234.out 5).trans rfl
                   have hcz83_6 : wc.cell? ⟨gb234, 6, none⟩ = some (.int .i64 a0_6) := (blk_cell BK234.out 6).trans rfl
                   have hcz83_7 : wc.cell? ⟨gb234, 7, none⟩ = some (.int .i64 a0_7) := (blk_cell BK234.out 7).trans rfl
                   have hcz83_8 : wc.cell? ⟨gb234, 8, none⟩ = some (.bool false) := (blk_cell BK234.out 8).trans rfl
                   have hcz83_9 : wc.cell? ⟨gb234, 9, none⟩ = some (.slice A0_9 l0_9.length c0_9) := (blk_cell BK234.out 9).trans rfl
                   have hfz83_0 := blk_frozen BK234.out 0
                   have hfz83_1 := blk_frozen BK234.out 1
                   have hfz83_2 := blk_frozen BK234.out 2
                   have hfz83_3 := blk_frozen BK234.out 3
                   have hfz83_4 := blk_frozen BK234.out 4
                   have hfz83_5 := blk_frozen BK234.out 5
                   have hfz83_6 := blk_frozen BK234.out 6
                   have hfz83_7 := blk_frozen BK234.out 7
                   have hfz83_8 := blk_frozen BK234.out 8
                   have hfz83_9 := blk_frozen BK234.out 9
                   go_wp2
                   go_ret
                   exact ⟨by first | rfl | (simp [errW_none, errW_some] <;> rfl) | (simp [*, errW_none, errW_some] <;> rfl), by repeat (first | (with_reducible first | exact HB.out | apply below_alloc | apply pw_below_drewN | apply below_drew1 | refine below_set ?_ GE234.out) | exact HB.out)⟩
                  ·
                   rw [if_neg c82] at H
                   have c82b0 : (a0_4.toList == ([] : List UInt8)) = false := beq_eq_false_iff_ne.mpr c82
                   have c82b1 : (a0_4.toList != ([] : List UInt8)) = true := bne_iff_ne.mpr c82
                   obtain rfl := Option.some.inj H
                   have hcz84_0 : wc.cell? ⟨gb234, 0, none⟩ = some (.int .i64 a0_0) := (blk_cell BK234.out 0).trans rfl
                   have hcz84_1 : wc.cell? ⟨gb234, 1, none⟩ = some (.int .i64 a0_1) := (blk_cell BK234.out 1).trans rfl
                   have hcz84_2 : wc.cell? ⟨gb234, 2, none⟩ = some (.string a0_2) := (blk_cell BK234.out 2).trans rfl
                   have hcz84_3 : wc.cell? ⟨gb234, 3, none⟩ = some (.string a0_3) := (blk_cell BK234.out 3).trans rfl
                   have hcz84_4 : wc.cell? ⟨gb234, 4, none⟩ = some (.string a0_4) := (blk_cell BK234.out 4).trans rfl
                   have hcz84_5 : wc.cell? ⟨gb234, 5, none⟩ = some (.int .i64 a0_5) := (blk_cell BK234.out 5).trans rfl
                   have hcz84_6 : wc.cell? ⟨gb234, 6, none⟩ = some (.int .i64 a0_6) := (blk_cell BK234.out 6).trans rfl
                   have hcz84_7 : wc.cell? ⟨gb234, 7, none⟩ = some (.int .i64 a0_7) := (blk_cell BK234.out 7).trans rfl
                   have hcz84_8 : wc.cell? ⟨gb234, 8, none⟩ = some (.bool false) := (blk_cell BK234.out 8).trans rfl
                   have hcz84_9 : wc.cell? ⟨gb234, 9, none⟩ = some (.slice A0_9 l0_9.length c0_9) := (blk_cell BK234.out 9).trans rfl
                   have hfz84_0 := blk_frozen BK234.out 0
                   have hfz84_1 := blk_frozen BK234.out 1
                   have hfz84_2 := blk_frozen BK234.out 2
                   have hfz84_3 := blk_frozen BK234.out 3
                   have hfz84_4 := blk_frozen BK234.out 4
                   have hfz84_5 := blk_frozen BK234.out 5
                   have hfz84_6 := blk_frozen BK234.out 6
                   have hfz84_7 := blk_frozen BK234.out 7
                   have hfz84_8 := blk_frozen BK234.out 8
                   have hfz84_9 := blk_frozen BK234.out 9
                   go_wp2
                   go_ret
                   exact ⟨by first | rfl | (simp [errW_none, errW_some] <;> rfl) | (simp [*, errW_none, errW_some] <;> rfl), by repeat (first | (with_reducible first | exact HB.out | apply below_alloc | apply pw_below_drewN | apply below_drew1 | refine below_set ?_ GE234.out) | exact HB.out)⟩
                ·
                 rw [if_neg c79] at H
                 have c79b0 : (a0_7 == 0) = false := beq_eq_false_iff_ne.mpr c79
                 have c79b1 : (a0_7 != 0) = true := bne_iff_ne.mpr c79
                 obtain rfl := Option.some.inj H
                 have hcz85_0 : wc.cell? ⟨gb234, 0, none⟩ = some (.int .i64 a0_0) := (blk_cell BK234.out 0).trans rfl
                 have hcz85_1 : wc.cell? ⟨gb234, 1, none⟩ = some (.int .i64 a0_1) := (blk_cell BK234.out 1).trans rfl
                 have hcz85_2 : wc.cell? ⟨gb234, 2, none⟩ = some (.string a0_2) := (blk_cell BK234.out 2).trans rfl
                 have hcz85_3 : wc.cell? ⟨gb234, 3, none⟩ = some (.string a0_3) := (blk_cell BK234.out 3).trans rfl
                 have hcz85_4 : wc.cell? ⟨gb234, 4, none⟩ = some (.string a0_4) := (blk_cell BK234.out 4).trans rfl
                 have hcz85_5 : wc.cell? ⟨gb234, 5, none⟩ = some (.int .i64 a0_5) := (blk_cell BK234.out 5).trans rfl
                 have hcz85_6 : wc.cell? ⟨gb234, 6, none⟩ = some (.int .i64 a0_6) := (blk_cell BK234.out 6).trans rfl
                 have hcz85_7 : wc.cell? ⟨gb234, 7, none⟩ = some (.int .i64 a0_7) := (blk_cell BK234.out 7).trans rfl
                 have hcz85_8 : wc.cell? ⟨gb234, 8, none⟩ = some (.bool a0_8) := (blk_cell BK234.out 8).trans rfl
                 have hcz85_9 : wc.cell? ⟨gb234, 9, none⟩ = some (.slice A0_9 l0_9.length c0_9) := (blk_cell BK234.out 9).trans rfl
                 have hfz85_0 := blk_frozen BK234.out 0
                 have hfz85_1 := blk_frozen BK234.out 1
                 have hfz85_2 := blk_frozen BK234.out 2
                 have hfz85_3 := blk_frozen BK234.out 3
                 have hfz85_4 := blk_frozen BK234.out 4
                 have hfz85_5 := blk_frozen BK234.out 5
                 have hfz85_6 := blk_frozen BK234.out 6
                 have hfz85_7 := blk_frozen BK234.out 7
                 have hfz85_8 := blk_frozen BK234.out 8
                 have hfz85_9 := blk_frozen BK234.out 9
                 go_wp2
                 go_ret
                 exact ⟨by first | rfl | (simp [errW_none, errW_some] <;> rfl) | (simp [*, errW_none, errW_some] <;> rfl), by repeat (first | (with_reducible first | exact HB.out | apply below_alloc | apply pw_below_drewN | apply below_drew1 | refine below_set ?_ GE234.out) | exact HB.out)⟩
               ·
                rw [if_neg c78] at H
                have c78b0 : (a0_6 == 0) = false := beq_eq_false_iff_ne.mpr c78
                have c78b1 : (a0_6 != 0) = true := bne_iff_ne.mpr c78
                obtain rfl := Option.some.inj H
                have hcz86_0 : wc.cell? ⟨gb234, 0, none⟩ = some (.int .i64 a0_0) := (blk_cell BK234.out 0).trans rfl
                have hcz86_1 : wc.cell? ⟨gb234, 1, none⟩ = some (.int .i64 a0_1) := (blk_cell BK234.out 1).trans rfl
                have hcz86_2 : wc.cell? ⟨gb234, 2, none⟩ = some (.string a0_2) := (blk_cell BK234.out 2).trans rfl
                have hcz86_3 : wc.cell? ⟨gb234, 3, none⟩ = some (.string a0_3) := (blk_cell BK234.out 3).trans rfl
                have hcz86_4 : wc.cell? ⟨gb234, 4, none⟩ = some (.string a0_4) := (blk_cell BK234.out 4).trans rfl
                have hcz86_5 : wc.cell? ⟨gb234, 5, none⟩ = some (.int .i64 a0_5) := (blk_cell BK234.out 5).trans rfl
                have hcz86_6 : wc.cell? ⟨gb234, 6, none⟩ = some (.int .i64 a0_6) := (blk_cell BK234.out 6).trans rfl
                have hcz86_7 : wc.cell? ⟨gb234, 7, none⟩ = some (.int .i64 a0_7) := (blk_cell BK234.out 7).trans rfl
                have hcz86_8 : wc.cell? ⟨gb234, 8, none⟩ = some (.bool a0_8) := (blk_cell BK234.out 8).trans rfl
                have hcz86_9 : wc.cell? ⟨gb234, 9, none⟩ = some (.slice A0_9 l0_9.length c0_9) := (blk_cell BK234.out 9).trans rfl
                have hfz86_0 := blk_frozen BK234.out 0
                have hfz86_1 := blk_frozen BK234.out 1
                have hfz86_2 := blk_frozen BK234.out 2
                have hfz86_3 := blk_frozen BK234.out 3
                have hfz86_4 := blk_frozen BK234.out 4
                have hfz86_5 := blk_frozen BK234.out 5
                have hfz86_6 := blk_frozen BK234.out 6
                have hfz86_7 := blk_frozen BK234.out 7
                have hfz86_8 := blk_frozen BK234.out 8
                have hfz86_9 := blk_frozen BK234.out 9
                go_wp2
                go_ret
                exact ⟨by first | rfl | (simp [errW_none, errW_some] <;> rfl) | (simp [*, errW_none, errW_some] <;> rfl), by repeat (first | (with_reducible first | exact HB.out | apply below_alloc | apply pw_below_drewN | apply below_drew1 | refine below_set ?_ GE234.out) | exact HB.out)⟩
              ·
               rw [if_neg c77] at H
               have c77b0 : (a0_5 == 0) = false := beq_eq_false_iff_ne.mpr c77
               have c77b1 : (a0_5 != 0) = true := bne_iff_ne.mpr c77
               obtain rfl := Option.some.inj H
               have hcz87_0 : wc.cell? ⟨gb234, 0, none⟩ = some (.int .i64 a0_0) := (blk_cell BK234.out 0).trans rfl
               have hcz87_1 : wc.cell? ⟨gb234, 1, none⟩ = some (.int .i64 a0_1) := (blk_cell BK234.out 1).trans rfl
               have hcz87_2 : wc.cell? ⟨gb234, 2, none⟩ = some (.string a0_2) := (blk_cell BK234.out 2).trans rfl
               have hcz87_3 : wc.cell? ⟨gb234, 3, none⟩ = some (.string a0_3) := (blk_cell BK234.out 3).trans rfl
               have hcz87_4 : wc.cell? ⟨gb234, 4, none⟩ = some (.string a0_4) := (blk_cell BK234.out 4).trans rfl
               have hcz87_5 : wc.cell? ⟨gb234, 5, none⟩ = some (.int .i64 a0_5) := (blk_cell BK234.out 5).trans rfl
               have hcz87_6 : wc.cell? ⟨gb234, 6, none⟩ = some (.int .i64 a0_6) := (blk_cell BK234.out 6).trans rfl
               have hcz87_7 : wc.cell? ⟨gb234, 7, none⟩ = some (.int .i64 a0_7) := (blk_cell BK234.out 7).trans rfl
               have hcz87_8 : wc.cell? ⟨gb234, 8, none⟩ = some (.bool a0_8) := (blk_cell BK234.out 8).trans rfl
               have hcz87_9 : wc.cell? ⟨gb234, 9, none⟩ = some (.slice A0_9 l0_9.length c0_9) := (blk_cell BK234.out 9).trans rfl
               have hfz87_0 := blk_frozen BK234.out 0
               have hfz87_1 := blk_frozen BK234.out 1
               have hfz87_2 := blk_frozen BK234.out 2
               have hfz87_3 := blk_frozen BK234.out 3
               have hfz87_4 := blk_frozen BK234.out 4
               have hfz87_5 := blk_frozen BK234.out 5
               have hfz87_6 := blk_frozen BK234.out 6
               have hfz87_7 := blk_frozen BK234.out 7
               have hfz87_8 := blk_frozen BK234.out 8
               have hfz87_9 := blk_frozen BK234.out 9
               go_wp2
               go_ret
               exact ⟨by first | rfl | (simp [errW_none, errW_some] <;> rfl) | (simp [*, errW_none, errW_some] <;> rfl), by repeat (first | (with_reducible first | exact HB.out | apply below_alloc | apply pw_below_drewN | apply below_drew1 | refine below_set ?_ GE234.out) | exact HB.out)⟩
             ·
              rw [if_neg c76] at H
              have c76b0 : (a0_1 == 0) = false := beq_eq_false_iff_ne.mpr c76
              have c76b1 : (a0_1 != 0) = true := bne_iff_ne.mpr c76
              obtain rfl := Option.some.inj H
              have hcz88_0 : wc.cell? ⟨gb234, 0, none⟩ = some (.int .i64 a0_0) := (blk_cell BK234.out 0).trans rfl
              have hcz88_1 : wc.cell? ⟨gb234, 1, none⟩ = some (.int .i64 a0_1) := (blk_cell BK234.out 1).trans rfl
              have hcz88_2 : wc.cell? ⟨gb234, 2, none⟩ = some (.string a0_2) := (blk_cell BK234.out 2).trans rfl
              have hcz88_3 : wc.cell? ⟨gb234, 3, none⟩ = some (.string a0_3) := (blk_cell BK234.out 3).trans rfl
              have hcz88_4 : wc.cell? ⟨gb234, 4, none⟩ = some (.string a0_4) := (blk_cell BK234.out 4).trans rfl
              have hcz88_5 : wc.cell? ⟨gb234, 5, none⟩ = some (.int .i64 a0_5) := (blk_cell BK234.out 5).trans rfl
              have hcz88_6 : wc.cell? ⟨gb234, 6, none⟩ = some (.int .i64 a0_6) := (blk_cell BK234.out 6).trans rfl
              have hcz88_7 : wc.cell? ⟨gb234, 7, none⟩ = some (.int .i64 a0_7) := (blk_cell BK234.out 7).trans rfl
              have hcz88_8 : wc.cell? ⟨gb234, 8, none⟩ = some (.bool a0_8) := (blk_cell BK234.out 8).trans rfl
              have hcz88_9 : wc.cell? ⟨gb234, 9, none⟩ = some (.slice A0_9 l0_9.length c0_9) := (blk_cell BK234.out 9).trans rfl
              have hfz88_0 := blk_frozen BK234.out 0
              have hfz88_1 := blk_frozen BK234.out 1
              have hfz88_2 := blk_frozen BK234.out 2
              have hfz88_3 := blk_frozen BK234.out 3
              have hfz88_4 := blk_frozen BK234.out 4
              have hfz88_5 := blk_frozen BK234.out 5
              have hfz88_6 := blk_frozen BK234.out 6
              have hfz88_7 := blk_frozen BK234.out 7
              have hfz88_8 := blk_frozen BK234.out 8
              have hfz88_9 := blk_frozen BK234.out 9
              go_wp2
              go_ret
              exact ⟨by first | rfl | (simp [errW_none, errW_some] <;> rfl) | (simp [*, errW_none, errW_some] <;> rfl), by repeat (first | (with_reducible first | exact HB.out | apply below_alloc | apply pw_below_drewN | apply below_drew1 | refine below_set ?_ GE234.out) | exact HB.out)⟩
            ·
             rw [if_neg c75] at H
             have c75b0 : (a0_0 == 5) = false := beq_eq_false_iff_ne.mpr c75
             have c75b1 : (a0_0 != 5) = true := bne_iff_ne.mpr c75
             obtain rfl := Option.some.inj H
             go_wp2
             go_ret
             exact ⟨by first | rfl | (simp [errW_none, errW_some] <;> rfl) | (simp [*, errW_none, errW_some] <;> rfl), by repeat (first | (with_reducible first | exact HB.out | apply below_alloc | apply pw_below_drewN | apply below_drew1 | refine below_set ?_ GE234.out) | exact HB.out)⟩

end Go.Proofs.YthagjeomcgphiaaDoor.X
