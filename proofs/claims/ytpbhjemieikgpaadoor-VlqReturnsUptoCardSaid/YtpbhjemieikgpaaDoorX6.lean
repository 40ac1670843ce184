-- written by xprint.py, a program of this claim's work (wip/xprint), which runs the kit's printer with hooks
import Derived.Test.YtpbhjemieikgpaaDoorX0
import Derived.Test.YtpbhjemieikgpaaDoorX1
import Derived.Test.YtpbhjemieikgpaaDoorX2
import Derived.Test.YtpbhjemieikgpaaDoorX5
namespace Go.Proofs.YtpbhjemieikgpaaDoor.X
open Go.RowKit Go.Proofs.YtpbhjemieikgpaaDoorW.PrintWords Go.Proofs.YtpbhjemieikgpaaDoorW.PrintLast Go.Proofs.YtpbhjemieikgpaaDoorW.PrintMore
attribute [local go_sem] max2_int min2_int max_two min_two max_three min_three max_four min_four   -- for this text's walks alone
set_option linter.unusedVariables false
set_option linter.unusedSimpArgs false

/-! ### rhynelaw07_VlqLess: function 5 -/
mutual
def rhynelaw07_VlqLess.j0 : Nat → Int → List Int → Bool → Option (Bool)
  | 0, _, _, _ => none
  | k + 1, x0, x5, x68 => if x68 = true then (some false) else (rhynelaw07_VlqLess.l0 k x0 (x5.length : Int))
def rhynelaw07_VlqLess.l0 : Nat → Int → Int → Option (Bool)
  | 0, _, _ => none
  | k + 1, x0, x9 => if x9 ≤ 8 then ((vlq_PutIn_uint64.f k x0 x9).bind fun bt237 => ((vlq_Get.f k bt237.1).bind fun bt241 => (if bt237.2 = 0 then (if bt241.2.2 = 0 then (if bt241.1 = x0 then (if bt241.2.1 = x9 then (rhynelaw07_VlqLess.l0 k x0 (wrap64 (x9 * 2))) else (some false)) else (some false)) else (some false)) else (some false)))) else (some true)
end
def rhynelaw07_VlqLess.f (k : Nat) (a0 : Int) (a1 : Int) : Option (Bool) := (vlq_Put_uint64.f k (Int.tmod a0 4611686018427387904)).bind fun bt228 => ((vlq_Put_uint64.f k (Int.tmod a1 4611686018427387904)).bind fun bt232 => ((rhynelaw07_counts.f k).bind fun t236 => (if t236 = true then (if bt228.2 = 0 then (if bt232.2 = 0 then (if (Int.tmod a0 4611686018427387904) < (Int.tmod a1 4611686018427387904) then (if (bt228.1.length : Int) > (bt232.1.length : Int) then (rhynelaw07_VlqLess.j0 k (Int.tmod a0 4611686018427387904) bt228.1 true) else (if (bt228.1.length : Int) = (bt232.1.length : Int) then (rhynelaw07_VlqLess.j0 k (Int.tmod a0 4611686018427387904) bt228.1 ((decide ((Int.tmod a0 4611686018427387904) < (Int.tmod a1 4611686018427387904))) != (Op.bytesLess ((strOfNums bt228.1).toList) ((strOfNums bt232.1).toList)))) else (rhynelaw07_VlqLess.j0 k (Int.tmod a0 4611686018427387904) bt228.1 false))) else (if (bt228.1.length : Int) = (bt232.1.length : Int) then (rhynelaw07_VlqLess.j0 k (Int.tmod a0 4611686018427387904) bt228.1 ((decide ((Int.tmod a0 4611686018427387904) < (Int.tmod a1 4611686018427387904))) != (Op.bytesLess ((strOfNums bt228.1).toList) ((strOfNums bt232.1).toList)))) else (rhynelaw07_VlqLess.j0 k (Int.tmod a0 4611686018427387904) bt228.1 false))) else (rhynelaw07_VlqLess.j0 k (Int.tmod a0 4611686018427387904) bt228.1 true)) else (rhynelaw07_VlqLess.j0 k (Int.tmod a0 4611686018427387904) bt228.1 true)) else (rhynelaw07_VlqLess.j0 k (Int.tmod a0 4611686018427387904) bt228.1 true))))
theorem rhynelaw07_VlqLess.mono_l : ∀ k, (∀ y0 y1 y2, LeO (rhynelaw07_VlqLess.j0 k y0 y1 y2) (rhynelaw07_VlqLess.j0 (k + 1) y0 y1 y2)) ∧ (∀ y0 y1, LeO (rhynelaw07_VlqLess.l0 k y0 y1) (rhynelaw07_VlqLess.l0 (k + 1) y0 y1))
  | 0 => ⟨fun _ _ _ r h => by simp [rhynelaw07_VlqLess.j0] at h, fun _ _ r h => by simp [rhynelaw07_VlqLess.l0] at h⟩
  | k + 1 => by
    obtain ⟨ih0, ih1⟩ := rhynelaw07_VlqLess.mono_l k
    refine ⟨?_, ?_⟩
    · intro y0 y1 y2
      unfold rhynelaw07_VlqLess.j0
      repeat' first
      | (with_reducible exact ih0 _ _ _)
      | (with_reducible exact ih1 _ _)
      | (with_reducible exact rhynelaw07_counts.mono _)
      | (with_reducible exact vlq_Get.mono _ _)
      | (with_reducible exact vlq_PutIn_uint64.mono _ _ _)
      | (with_reducible exact vlq_Put_uint64.mono _ _)
      | (with_reducible exact LeO.refl _)
      | (with_reducible exact LeO.none _)
      | (with_reducible refine LeO.ite ?_ ?_)
      | (with_reducible refine LeO.bind ?_ (fun _ => ?_))
      | exact ih0 _ _ _
      | exact ih1 _ _
      | exact rhynelaw07_counts.mono _
      | exact vlq_Get.mono _ _
      | exact vlq_PutIn_uint64.mono _ _ _
      | exact vlq_Put_uint64.mono _ _
      | exact LeO.none _
      | refine LeO.ite ?_ ?_
      | refine LeO.bind ?_ (fun _ => ?_)
    · intro y0 y1
      unfold rhynelaw07_VlqLess.l0
      repeat' first
      | (with_reducible exact ih0 _ _ _)
      | (with_reducible exact ih1 _ _)
      | (with_reducible exact rhynelaw07_counts.mono _)
      | (with_reducible exact vlq_Get.mono _ _)
      | (with_reducible exact vlq_PutIn_uint64.mono _ _ _)
      | (with_reducible exact vlq_Put_uint64.mono _ _)
      | (with_reducible exact LeO.refl _)
      | (with_reducible exact LeO.none _)
      | (with_reducible refine LeO.ite ?_ ?_)
      | (with_reducible refine LeO.bind ?_ (fun _ => ?_))
      | exact ih0 _ _ _
      | exact ih1 _ _
      | exact rhynelaw07_counts.mono _
      | exact vlq_Get.mono _ _
      | exact vlq_PutIn_uint64.mono _ _ _
      | exact vlq_Put_uint64.mono _ _
      | exact LeO.none _
      | refine LeO.ite ?_ ?_
      | refine LeO.bind ?_ (fun _ => ?_)
theorem rhynelaw07_VlqLess.mono : ∀ a0 a1 k, LeO (rhynelaw07_VlqLess.f k a0 a1) (rhynelaw07_VlqLess.f (k + 1) a0 a1) := by
  intro a0 a1 k
  obtain ⟨ih0, ih1⟩ := rhynelaw07_VlqLess.mono_l k
  unfold rhynelaw07_VlqLess.f
  repeat' first
      | (with_reducible exact ih0 _ _ _)
      | (with_reducible exact ih1 _ _)
      | (with_reducible exact rhynelaw07_counts.mono _)
      | (with_reducible exact vlq_Get.mono _ _)
      | (with_reducible exact vlq_PutIn_uint64.mono _ _ _)
      | (with_reducible exact vlq_Put_uint64.mono _ _)
      | (with_reducible exact LeO.refl _)
      | (with_reducible exact LeO.none _)
      | (with_reducible refine LeO.ite ?_ ?_)
      | (with_reducible refine LeO.bind ?_ (fun _ => ?_))
      | exact ih0 _ _ _
      | exact ih1 _ _
      | exact rhynelaw07_counts.mono _
      | exact vlq_Get.mono _ _
      | exact vlq_PutIn_uint64.mono _ _ _
      | exact vlq_Put_uint64.mono _ _
      | exact LeO.none _
      | refine LeO.ite ?_ ?_
      | refine LeO.bind ?_ (fun _ => ?_)
set_option maxHeartbeats 8000000 in
set_option maxRecDepth 100000 in
theorem rhynelaw07_VlqLess.calls (k : Nat) (a0 : Int) (a1 : Int) (r : Bool) (w : World) (hG : GlobT w) (h : rhynelaw07_VlqLess.f k a0 a1 = some r) :
    Calls Tryd.prog 5 #[.int .u64 a0, .int .u64 a1] w fun e w' => e = .returned (.bool r) ∧ Below w.heap.size w w' := by
  have HB := Aside0.mk (Below.refl w.heap.size w)
  have HG := Aside0.mk hG
  clear hG
  have H : ((vlq_Put_uint64.f k (Int.tmod a0 4611686018427387904)).bind fun bt228 => ((vlq_Put_uint64.f k (Int.tmod a1 4611686018427387904)).bind fun bt232 => ((rhynelaw07_counts.f k).bind fun t236 => (if t236 = true then (if bt228.2 = 0 then (if bt232.2 = 0 then (if (Int.tmod a0 4611686018427387904) < (Int.tmod a1 4611686018427387904) then (if (bt228.1.length : Int) > (bt232.1.length : Int) then (rhynelaw07_VlqLess.j0 k (Int.tmod a0 4611686018427387904) bt228.1 true) else (if (bt228.1.length : Int) = (bt232.1.length : Int) then (rhynelaw07_VlqLess.j0 k (Int.tmod a0 4611686018427387904) bt228.1 ((decide ((Int.tmod a0 4611686018427387904) < (Int.tmod a1 4611686018427387904))) != (Op.bytesLess ((strOfNums bt228.1).toList) ((strOfNums bt232.1).toList)))) else (rhynelaw07_VlqLess.j0 k (Int.tmod a0 4611686018427387904) bt228.1 false))) else (if (bt228.1.length : Int) = (bt232.1.length : Int) then (rhynelaw07_VlqLess.j0 k (Int.tmod a0 4611686018427387904) bt228.1 ((decide ((Int.tmod a0 4611686018427387904) < (Int.tmod a1 4611686018427387904))) != (Op.bytesLess ((strOfNums bt228.1).toList) ((strOfNums bt232.1).toList)))) else (rhynelaw07_VlqLess.j0 k (Int.tmod a0 4611686018427387904) bt228.1 false))) else (rhynelaw07_VlqLess.j0 k (Int.tmod a0 4611686018427387904) bt228.1 true)) else (rhynelaw07_VlqLess.j0 k (Int.tmod a0 4611686018427387904) bt228.1 true)) else (rhynelaw07_VlqLess.j0 k (Int.tmod a0 4611686018427387904) bt228.1 true))))) = some r := h
  clear h
  replace H := Option.bind_eq_some_iff.mp H
  obtain ⟨⟨t228, t229⟩, A30, H⟩ := H
  replace H : ((vlq_Put_uint64.f k (Int.tmod a1 4611686018427387904)).bind fun bt232 => ((rhynelaw07_counts.f k).bind fun t236 => (if t236 = true then (if t229 = 0 then (if bt232.2 = 0 then (if (Int.tmod a0 4611686018427387904) < (Int.tmod a1 4611686018427387904) then (if (t228.length : Int) > (bt232.1.length : Int) then (rhynelaw07_VlqLess.j0 k (Int.tmod a0 4611686018427387904) t228 true) else (if (t228.length : Int) = (bt232.1.length : Int) then (rhynelaw07_VlqLess.j0 k (Int.tmod a0 4611686018427387904) t228 ((decide ((Int.tmod a0 4611686018427387904) < (Int.tmod a1 4611686018427387904))) != (Op.bytesLess ((strOfNums t228).toList) ((strOfNums bt232.1).toList)))) else (rhynelaw07_VlqLess.j0 k (Int.tmod a0 4611686018427387904) t228 false))) else (if (t228.length : Int) = (bt232.1.length : Int) then (rhynelaw07_VlqLess.j0 k (Int.tmod a0 4611686018427387904) t228 ((decide ((Int.tmod a0 4611686018427387904) < (Int.tmod a1 4611686018427387904))) != (Op.bytesLess ((strOfNums t228).toList) ((strOfNums bt232.1).toList)))) else (rhynelaw07_VlqLess.j0 k (Int.tmod a0 4611686018427387904) t228 false))) else (rhynelaw07_VlqLess.j0 k (Int.tmod a0 4611686018427387904) t228 true)) else (rhynelaw07_VlqLess.j0 k (Int.tmod a0 4611686018427387904) t228 true)) else (rhynelaw07_VlqLess.j0 k (Int.tmod a0 4611686018427387904) t228 true)))) = some r := H
  have A3 := Aside0.mk A30
  clear A30
  replace H := Option.bind_eq_some_iff.mp H
  obtain ⟨⟨t232, t233⟩, A40, H⟩ := H
  replace H : ((rhynelaw07_counts.f k).bind fun t236 => (if t236 = true then (if t229 = 0 then (if t233 = 0 then (if (Int.tmod a0 4611686018427387904) < (Int.tmod a1 4611686018427387904) then (if (t228.length : Int) > (t232.length : Int) then (rhynelaw07_VlqLess.j0 k (Int.tmod a0 4611686018427387904) t228 true) else (if (t228.length : Int) = (t232.length : Int) then (rhynelaw07_VlqLess.j0 k (Int.tmod a0 4611686018427387904) t228 ((decide ((Int.tmod a0 4611686018427387904) < (Int.tmod a1 4611686018427387904))) != (Op.bytesLess ((strOfNums t228).toList) ((strOfNums t232).toList)))) else (rhynelaw07_VlqLess.j0 k (Int.tmod a0 4611686018427387904) t228 false))) else (if (t228.length : Int) = (t232.length : Int) then (rhynelaw07_VlqLess.j0 k (Int.tmod a0 4611686018427387904) t228 ((decide ((Int.tmod a0 4611686018427387904) < (Int.tmod a1 4611686018427387904))) != (Op.bytesLess ((strOfNums t228).toList) ((strOfNums t232).toList)))) else (rhynelaw07_VlqLess.j0 k (Int.tmod a0 4611686018427387904) t228 false))) else (rhynelaw07_VlqLess.j0 k (Int.tmod a0 4611686018427387904) t228 true)) else (rhynelaw07_VlqLess.j0 k (Int.tmod a0 4611686018427387904) t228 true)) else (rhynelaw07_VlqLess.j0 k (Int.tmod a0 4611686018427387904) t228 true))) = some r := H
  have A4 := Aside0.mk A40
  clear A40
  have HC5 := Aside0.mk H
  clear H
  go_enter Tryd.func5, Tryd.ntmps5
  go_upto_region 4 with (first | ((with_reducible refine gate_callee (f := 10) rfl ?_); refine goesL_ (some 21) rfl rfl Tryd.func10 (by kernel_rfl) rfl #[.int .u64 (Int.tmod a0 4611686018427387904)] rfl (by (try simp only [List.map_toArray, List.map_cons, List.map_nil]); first | done | rfl | (simp only [List.length_drop, List.length_take]; rfl)) ?_; (with_reducible refine (vlq_Put_uint64.calls k (Int.tmod a0 4611686018427387904) t228 t229 _ ?side1 A3.out).mono ?_); (case side1 => exact glob_below HG.out (by repeat (first | (with_reducible first | exact HB.out | apply below_alloc | apply pw_below_drewN | apply below_drew1) | exact HB.out))); rintro e w6 ⟨v230, rfl, ho0, hb⟩; refine ⟨_, rfl, ?_⟩; have n0_ := Aside0.mk (Kd.R_lower ho0 (below_size (by repeat (first | (with_reducible first | exact HB.out | apply below_alloc | apply pw_below_drewN | apply below_drew1) | exact HB.out)))); have n1_ := Aside0.mk (below_step (by repeat (first | (with_reducible first | exact HB.out | apply below_alloc | apply pw_below_drewN | apply below_drew1) | exact HB.out)) hb); clear HB; have HO231 := n0_; have HB := n1_; clear n0_ n1_; (try clear hb); (try clear hb2); (try clear hk); (try clear hi); (try clear ho0)) | ((with_reducible refine gate_callee (f := 10) rfl ?_); refine goesL_ (some 26) rfl rfl Tryd.func10 (by kernel_rfl) rfl #[.int .u64 (Int.tmod a1 4611686018427387904)] rfl (by (try simp only [List.map_toArray, List.map_cons, List.map_nil]); first | done | rfl | (simp only [List.length_drop, List.length_take]; rfl)) ?_; (with_reducible refine (vlq_Put_uint64.calls k (Int.tmod a1 4611686018427387904) t232 t233 _ ?side1 A4.out).mono ?_); (case side1 => exact glob_below HG.out (by repeat (first | (with_reducible first | exact HB.out | apply below_alloc | apply pw_below_drewN | apply below_drew1) | exact HB.out))); rintro e w7 ⟨v234, rfl, ho0, hb⟩; refine ⟨_, rfl, ?_⟩; have n0_ := Aside0.mk (Kd.R_elder' (by (with_reducible repeat (first | apply Kd.R_alloc | apply Kd.R_drewN | apply Kd.R_drew)); exact HO231.out) (Kd.R_base ho0) hb); have n1_ := Aside0.mk (Kd.R_lower (Kd.R_new' ho0 (Kd.R_lt (by (with_reducible repeat (first | apply Kd.R_alloc | apply Kd.R_drewN | apply Kd.R_drew)); exact HO231.out))) (below_size (by repeat (first | (with_reducible first | exact HB.out | apply below_alloc | apply pw_below_drewN | apply below_drew1) | exact HB.out)))); have n2_ := Aside0.mk (below_step (by repeat (first | (with_reducible first | exact HB.out | apply below_alloc | apply pw_below_drewN | apply below_drew1) | exact HB.out)) hb); clear HO231; clear HB; have HO231 := n0_; have HO235 := n1_; have HB := n2_; clear n0_ n1_ n2_; (try clear hb); (try clear hb2); (try clear hk); (try clear hi); (try clear ho0)))
  (try simp only [Act.put, List.setIfInBounds_toArray, List.set_cons_zero, List.set_cons_succ])
  go_cut [68] (fun v68 wc => ∃ (kq : Nat) (x68_4 : Bool), v68 = .bool x68_4 ∧ Aside0 (rhynelaw07_VlqLess.j0 kq (Int.tmod a0 4611686018427387904) t228 x68_4 = some r) ∧ Aside0 (kq ≤ k) ∧ Aside0 (Kd.R (Kd.int .u8) 5 wc w.heap.size (fun _ => True) v230 t228) ∧ Aside0 (Below w.heap.size w wc))
  case first =>
    have H := HC5.out
    clear HC5
    replace H := Option.bind_eq_some_iff.mp H
    obtain ⟨t236, A80, H⟩ := H
    replace H : (if t236 = true then (if t229 = 0 then (if t233 = 0 then (if (Int.tmod a0 4611686018427387904) < (Int.tmod a1 4611686018427387904) then (if (t228.length : Int) > (t232.length : Int) then (rhynelaw07_VlqLess.j0 k (Int.tmod a0 4611686018427387904) t228 true) else (if (t228.length : Int) = (t232.length : Int) then (rhynelaw07_VlqLess.j0 k (Int.tmod a0 4611686018427387904) t228 ((decide ((Int.tmod a0 4611686018427387904) < (Int.tmod a1 4611686018427387904))) != (Op.bytesLess ((strOfNums t228).toList) ((strOfNums t232).toList)))) else (rhynelaw07_VlqLess.j0 k (Int.tmod a0 4611686018427387904) t228 false))) else (if (t228.length : Int) = (t232.length : Int) then (rhynelaw07_VlqLess.j0 k (Int.tmod a0 4611686018427387904) t228 ((decide ((Int.tmod a0 4611686018427387904) < (Int.tmod a1 4611686018427387904))) != (Op.bytesLess ((strOfNums t228).toList) ((strOfNums t232).toList)))) else (rhynelaw07_VlqLess.j0 k (Int.tmod a0 4611686018427387904) t228 false))) else (rhynelaw07_VlqLess.j0 k (Int.tmod a0 4611686018427387904) t228 true)) else (rhynelaw07_VlqLess.j0 k (Int.tmod a0 4611686018427387904) t228 true)) else (rhynelaw07_VlqLess.j0 k (Int.tmod a0 4611686018427387904) t228 true)) = some r := H
    have A8 := Aside0.mk A80
    clear A80
    by_cases c9 : t236 = true
    · subst c9
      have H1 : (if t229 = 0 then (if t233 = 0 then (if (Int.tmod a0 4611686018427387904) < (Int.tmod a1 4611686018427387904) then (if (t228.length : Int) > (t232.length : Int) then (rhynelaw07_VlqLess.j0 k (Int.tmod a0 4611686018427387904) t228 true) else (if (t228.length : Int) = (t232.length : Int) then (rhynelaw07_VlqLess.j0 k (Int.tmod a0 4611686018427387904) t228 ((decide ((Int.tmod a0 4611686018427387904) < (Int.tmod a1 4611686018427387904))) != (Op.bytesLess ((strOfNums t228).toList) ((strOfNums t232).toList)))) else (rhynelaw07_VlqLess.j0 k (Int.tmod a0 4611686018427387904) t228 false))) else (if (t228.length : Int) = (t232.length : Int) then (rhynelaw07_VlqLess.j0 k (Int.tmod a0 4611686018427387904) t228 ((decide ((Int.tmod a0 4611686018427387904) < (Int.tmod a1 4611686018427387904))) != (Op.bytesLess ((strOfNums t228).toList) ((strOfNums t232).toList)))) else (rhynelaw07_VlqLess.j0 k (Int.tmod a0 4611686018427387904) t228 false))) else (rhynelaw07_VlqLess.j0 k (Int.tmod a0 4611686018427387904) t228 true)) else (rhynelaw07_VlqLess.j0 k (Int.tmod a0 4611686018427387904) t228 true)) = some r := by rw [if_pos rfl] at H; exact H
      clear H
      have H := H1
      clear H1
      by_cases c10 : t229 = 0
      · rw [if_pos c10] at H
        have c10b0 : (t229 == 0) = true := beq_iff_eq.mpr c10
        have c10b1 : (t229 != 0) = false := bne_eq_false_iff_eq.mpr c10
        clear c10
        (first | rw [c10b0] | (simp only [i64_w, i32_w]; rw [c10b0]) | skip)
        by_cases c11 : t233 = 0
        · rw [if_pos c11] at H
          have c11b0 : (t233 == 0) = true := beq_iff_eq.mpr c11
          have c11b1 : (t233 != 0) = false := bne_eq_false_iff_eq.mpr c11
          clear c11
          by_cases c12 : (Int.tmod a0 4611686018427387904) < (Int.tmod a1 4611686018427387904)
          · rw [if_pos c12] at H
            have c12b0 : decide ((Int.tmod a0 4611686018427387904) < (Int.tmod a1 4611686018427387904)) = true := decide_eq_true c12
            clear c12
            by_cases c13 : (t228.length : Int) > (t232.length : Int)
            · rw [if_pos c13] at H
              have c13b0 : decide ((t232.length : Int) < (t228.length : Int)) = true := decide_eq_true c13
              have c13b1 : decide (t232.length < t228.length) = true := decide_eq_true (Int.ofNat_lt.mp c13)
              clear c13
              have H' := Aside0.mk H
              clear H
              go_wp2_with (first | ((with_reducible refine gate_callee (f := 13) rfl ?_); refine goesL_ (some 29) rfl rfl Tryd.func13 (by kernel_rfl) rfl #[] rfl (by (try simp only [List.map_toArray, List.map_cons, List.map_nil]); first | done | rfl | (simp only [List.length_drop, List.length_take]; rfl)) ?_; (with_reducible refine (rhynelaw07_counts.calls k  true _ ?side1 A8.out).mono ?_); (case side1 => exact glob_below HG.out (by repeat (first | (with_reducible first | exact HB.out | apply below_alloc | apply pw_below_drewN | apply below_drew1) | exact HB.out))); rintro e w14 ⟨rfl, hb⟩; refine ⟨_, rfl, ?_⟩; have n0_ := Aside0.mk (Kd.R_below (by (with_reducible repeat (first | apply Kd.R_alloc | apply Kd.R_drewN | apply Kd.R_drew)); exact HO231.out) hb); have n1_ := Aside0.mk (Kd.R_below (by (with_reducible repeat (first | apply Kd.R_alloc | apply Kd.R_drewN | apply Kd.R_drew)); exact HO235.out) hb); have n2_ := Aside0.mk (below_step (by repeat (first | (with_reducible first | exact HB.out | apply below_alloc | apply pw_below_drewN | apply below_drew1) | exact HB.out)) hb); clear HO231; clear HO235; clear HB; have HO231 := n0_; have HO235 := n1_; have HB := n2_; clear n0_ n1_ n2_; (try clear hb); (try clear hb2); (try clear hk); (try clear hi); obtain ⟨Ao15, co15, eo15⟩ := Kd.R_slice HO231.out; subst eo15; obtain ⟨Ao16, co16, eo16⟩ := Kd.R_slice HO235.out; subst eo16))
              go_meet
              case rel => exact ⟨_, (true), (by first | rfl | (simp; done) | (simp [*]; done)), H', ⟨by first | omega | exact Nat.le_refl _⟩, ⟨by (with_reducible repeat (first | apply Kd.R_alloc | apply Kd.R_drewN | apply Kd.R_drew)); exact Kd.R_mono HO231.out (fun _ hk => trivial)⟩, ⟨by repeat (first | (with_reducible first | exact HB.out | apply below_alloc | apply pw_below_drewN | apply below_drew1) | exact HB.out)⟩⟩
            · rw [if_neg c13] at H
              have c13b0 : decide ((t232.length : Int) < (t228.length : Int)) = false := decide_eq_false c13
              have c13b1 : decide (t232.length < t228.length) = false := decide_eq_false (fun h => c13 (Int.ofNat_lt.mpr h))
              clear c13
              by_cases c17 : (t228.length : Int) = (t232.length : Int)
              · rw [if_pos c17] at H
                have c17b0 : ((t228.length : Int) == (t232.length : Int)) = true := beq_iff_eq.mpr c17
                have c17b1 : ((t228.length : Int) != (t232.length : Int)) = false := bne_eq_false_iff_eq.mpr c17
                have c17b2 : (t228.length == t232.length) = true := by first | simpa using c17 | (simp at c17 ⊢; omega)
                clear c17
                have H' := Aside0.mk H
                clear H
                go_wp2_with (first | ((with_reducible refine gate_callee (f := 13) rfl ?_); refine goesL_ (some 29) rfl rfl Tryd.func13 (by kernel_rfl) rfl #[] rfl (by (try simp only [List.map_toArray, List.map_cons, List.map_nil]); first | done | rfl | (simp only [List.length_drop, List.length_take]; rfl)) ?_; (with_reducible refine (rhynelaw07_counts.calls k  true _ ?side1 A8.out).mono ?_); (case side1 => exact glob_below HG.out (by repeat (first | (with_reducible first | exact HB.out | apply below_alloc | apply pw_below_drewN | apply below_drew1) | exact HB.out))); rintro e w18 ⟨rfl, hb⟩; refine ⟨_, rfl, ?_⟩; have n0_ := Aside0.mk (Kd.R_below (by (with_reducible repeat (first | apply Kd.R_alloc | apply Kd.R_drewN | apply Kd.R_drew)); exact HO231.out) hb); have n1_ := Aside0.mk (Kd.R_below (by (with_reducible repeat (first | apply Kd.R_alloc | apply Kd.R_drewN | apply Kd.R_drew)); exact HO235.out) hb); have n2_ := Aside0.mk (below_step (by repeat (first | (with_reducible first | exact HB.out | apply below_alloc | apply pw_below_drewN | apply below_drew1) | exact HB.out)) hb); clear HO231; clear HO235; clear HB; have HO231 := n0_; have HO235 := n1_; have HB := n2_; clear n0_ n1_ n2_; (try clear hb); (try clear hb2); (try clear hk); (try clear hi); obtain ⟨Ao19, co19, eo19⟩ := Kd.R_slice HO231.out; subst eo19; obtain ⟨Ao20, co20, eo20⟩ := Kd.R_slice HO235.out; subst eo20; have hcv21 := own_string (P := Tryd.prog) Tryd.underlying26 Tryd.underlying5 Tryd.underlying9 (Kd.own_of_R HO231.out); have hcv22 := own_string (P := Tryd.prog) Tryd.underlying26 Tryd.underlying5 Tryd.underlying9 (Kd.own_of_R HO235.out)))
                go_meet
                case rel => exact ⟨_, (((decide ((Int.tmod a0 4611686018427387904) < (Int.tmod a1 4611686018427387904))) != (Op.bytesLess ((strOfNums t228).toList) ((strOfNums t232).toList)))), (by first | rfl | (simp; done) | (simp [*]; done)), H', ⟨by first | omega | exact Nat.le_refl _⟩, ⟨by (with_reducible repeat (first | apply Kd.R_alloc | apply Kd.R_drewN | apply Kd.R_drew)); exact Kd.R_mono HO231.out (fun _ hk => trivial)⟩, ⟨by repeat (first | (with_reducible first | exact HB.out | apply below_alloc | apply pw_below_drewN | apply below_drew1) | exact HB.out)⟩⟩
              · rw [if_neg c17] at H
                have c17b0 : ((t228.length : Int) == (t232.length : Int)) = false := beq_eq_false_iff_ne.mpr c17
                have c17b1 : ((t228.length : Int) != (t232.length : Int)) = true := bne_iff_ne.mpr c17
                have c17b2 : (t228.length == t232.length) = false := by first | simpa using c17 | (simp at c17 ⊢; omega)
                have H' := Aside0.mk H
                clear H
                go_wp2_with (first | ((with_reducible refine gate_callee (f := 13) rfl ?_); refine goesL_ (some 29) rfl rfl Tryd.func13 (by kernel_rfl) rfl #[] rfl (by (try simp only [List.map_toArray, List.map_cons, List.map_nil]); first | done | rfl | (simp only [List.length_drop, List.length_take]; rfl)) ?_; (with_reducible refine (rhynelaw07_counts.calls k  true _ ?side1 A8.out).mono ?_); (case side1 => exact glob_below HG.out (by repeat (first | (with_reducible first | exact HB.out | apply below_alloc | apply pw_below_drewN | apply below_drew1) | exact HB.out))); rintro e w23 ⟨rfl, hb⟩; refine ⟨_, rfl, ?_⟩; have n0_ := Aside0.mk (Kd.R_below (by (with_reducible repeat (first | apply Kd.R_alloc | apply Kd.R_drewN | apply Kd.R_drew)); exact HO231.out) hb); have n1_ := Aside0.mk (Kd.R_below (by (with_reducible repeat (first | apply Kd.R_alloc | apply Kd.R_drewN | apply Kd.R_drew)); exact HO235.out) hb); have n2_ := Aside0.mk (below_step (by repeat (first | (with_reducible first | exact HB.out | apply below_alloc | apply pw_below_drewN | apply below_drew1) | exact HB.out)) hb); clear HO231; clear HO235; clear HB; have HO231 := n0_; have HO235 := n1_; have HB := n2_; clear n0_ n1_ n2_; (try clear hb); (try clear hb2); (try clear hk); (try clear hi); obtain ⟨Ao24, co24, eo24⟩ := Kd.R_slice HO231.out; subst eo24; obtain ⟨Ao25, co25, eo25⟩ := Kd.R_slice HO235.out; subst eo25))
                go_meet
                case rel => exact ⟨_, (false), (by first | rfl | (simp; done) | (simp [*]; done)), H', ⟨by first | omega | exact Nat.le_refl _⟩, ⟨by (with_reducible repeat (first | apply Kd.R_alloc | apply Kd.R_drewN | apply Kd.R_drew)); exact Kd.R_mono HO231.out (fun _ hk => trivial)⟩, ⟨by repeat (first | (with_reducible first | exact HB.out | apply below_alloc | apply pw_below_drewN | apply below_drew1) | exact HB.out)⟩⟩
          · rw [if_neg c12] at H
            have c12b0 : decide ((Int.tmod a0 4611686018427387904) < (Int.tmod a1 4611686018427387904)) = false := decide_eq_false c12
            clear c12
            by_cases c26 : (t228.length : Int) = (t232.length : Int)
            · rw [if_pos c26] at H
              have c26b0 : ((t228.length : Int) == (t232.length : Int)) = true := beq_iff_eq.mpr c26
              have c26b1 : ((t228.length : Int) != (t232.length : Int)) = false := bne_eq_false_iff_eq.mpr c26
              have c26b2 : (t228.length == t232.length) = true := by first | simpa using c26 | (simp at c26 ⊢; omega)
              clear c26
              have H' := Aside0.mk H
              clear H
              go_wp2_with (first | ((with_reducible refine gate_callee (f := 13) rfl ?_); refine goesL_ (some 29) rfl rfl Tryd.func13 (by kernel_rfl) rfl #[] rfl (by (try simp only [List.map_toArray, List.map_cons, List.map_nil]); first | done | rfl | (simp only [List.length_drop, List.length_take]; rfl)) ?_; (with_reducible refine (rhynelaw07_counts.calls k  true _ ?side1 A8.out).mono ?_); (case side1 => exact glob_below HG.out (by repeat (first | (with_reducible first | exact HB.out | apply below_alloc | apply pw_below_drewN | apply below_drew1) | exact HB.out))); rintro e w27 ⟨rfl, hb⟩; refine ⟨_, rfl, ?_⟩; have n0_ := Aside0.mk (Kd.R_below (by (with_reducible repeat (first | apply Kd.R_alloc | apply Kd.R_drewN | apply Kd.R_drew)); exact HO231.out) hb); have n1_ := Aside0.mk (Kd.R_below (by (with_reducible repeat (first | apply Kd.R_alloc | apply Kd.R_drewN | apply Kd.R_drew)); exact HO235.out) hb); have n2_ := Aside0.mk (below_step (by repeat (first | (with_reducible first | exact HB.out | apply below_alloc | apply pw_below_drewN | apply below_drew1) | exact HB.out)) hb); clear HO231; clear HO235; clear HB; have HO231 := n0_; have HO235 := n1_; have HB := n2_; clear n0_ n1_ n2_; (try clear hb); (try clear hb2); (try clear hk); (try clear hi); obtain ⟨Ao28, co28, eo28⟩ := Kd.R_slice HO231.out; subst eo28; obtain ⟨Ao29, co29, eo29⟩ := Kd.R_slice HO235.out; subst eo29; have hcv30 := own_string (P := Tryd.prog) Tryd.underlying26 Tryd.underlying5 Tryd.underlying9 (Kd.own_of_R HO231.out); have hcv31 := own_string (P := Tryd.prog) Tryd.underlying26 Tryd.underlying5 Tryd.underlying9 (Kd.own_of_R HO235.out)))
              go_meet
              case rel => exact ⟨_, (((decide ((Int.tmod a0 4611686018427387904) < (Int.tmod a1 4611686018427387904))) != (Op.bytesLess ((strOfNums t228).toList) ((strOfNums t232).toList)))), (by first | rfl | (simp; done) | (simp [*]; done)), H', ⟨by first | omega | exact Nat.le_refl _⟩, ⟨by (with_reducible repeat (first | apply Kd.R_alloc | apply Kd.R_drewN | apply Kd.R_drew)); exact Kd.R_mono HO231.out (fun _ hk => trivial)⟩, ⟨by repeat (first | (with_reducible first | exact HB.out | apply below_alloc | apply pw_below_drewN | apply below_drew1) | exact HB.out)⟩⟩
            · rw [if_neg c26] at H
              have c26b0 : ((t228.length : Int) == (t232.length : Int)) = false := beq_eq_false_iff_ne.mpr c26
              have c26b1 : ((t228.length : Int) != (t232.length : Int)) = true := bne_iff_ne.mpr c26
              have c26b2 : (t228.length == t232.length) = false := by first | simpa using c26 | (simp at c26 ⊢; omega)
              have H' := Aside0.mk H
              clear H
              go_wp2_with (first | ((with_reducible refine gate_callee (f := 13) rfl ?_); refine goesL_ (some 29) rfl rfl Tryd.func13 (by kernel_rfl) rfl #[] rfl (by (try simp only [List.map_toArray, List.map_cons, List.map_nil]); first | done | rfl | (simp only [List.length_drop, List.length_take]; rfl)) ?_; (with_reducible refine (rhynelaw07_counts.calls k  true _ ?side1 A8.out).mono ?_); (case side1 => exact glob_below HG.out (by repeat (first | (with_reducible first | exact HB.out | apply below_alloc | apply pw_below_drewN | apply below_drew1) | exact HB.out))); rintro e w32 ⟨rfl, hb⟩; refine ⟨_, rfl, ?_⟩; have n0_ := Aside0.mk (Kd.R_below (by (with_reducible repeat (first | apply Kd.R_alloc | apply Kd.R_drewN | apply Kd.R_drew)); exact HO231.out) hb); have n1_ := Aside0.mk (Kd.R_below (by (with_reducible repeat (first | apply Kd.R_alloc | apply Kd.R_drewN | apply Kd.R_drew)); exact HO235.out) hb); have n2_ := Aside0.mk (below_step (by repeat (first | (with_reducible first | exact HB.out | apply below_alloc | apply pw_below_drewN | apply below_drew1) | exact HB.out)) hb); clear HO231; clear HO235; clear HB; have HO231 := n0_; have HO235 := n1_; have HB := n2_; clear n0_ n1_ n2_; (try clear hb); (try clear hb2); (try clear hk); (try clear hi); obtain ⟨Ao33, co33, eo33⟩ := Kd.R_slice HO231.out; subst eo33; obtain ⟨Ao34, co34, eo34⟩ := Kd.R_slice HO235.out; subst eo34))
              go_meet
              case rel => exact ⟨_, (false), (by first | rfl | (simp; done) | (simp [*]; done)), H', ⟨by first | omega | exact Nat.le_refl _⟩, ⟨by (with_reducible repeat (first | apply Kd.R_alloc | apply Kd.R_drewN | apply Kd.R_drew)); exact Kd.R_mono HO231.out (fun _ hk => trivial)⟩, ⟨by repeat (first | (with_reducible first | exact HB.out | apply below_alloc | apply pw_below_drewN | apply below_drew1) | exact HB.out)⟩⟩
        · rw [if_neg c11] at H
          have c11b0 : (t233 == 0) = false := beq_eq_false_iff_ne.mpr c11
          have c11b1 : (t233 != 0) = true := bne_iff_ne.mpr c11
          have H' := Aside0.mk H
          clear H
          go_wp2_with (first | ((with_reducible refine gate_callee (f := 13) rfl ?_); refine goesL_ (some 29) rfl rfl Tryd.func13 (by kernel_rfl) rfl #[] rfl (by (try simp only [List.map_toArray, List.map_cons, List.map_nil]); first | done | rfl | (simp only [List.length_drop, List.length_take]; rfl)) ?_; (with_reducible refine (rhynelaw07_counts.calls k  true _ ?side1 A8.out).mono ?_); (case side1 => exact glob_below HG.out (by repeat (first | (with_reducible first | exact HB.out | apply below_alloc | apply pw_below_drewN | apply below_drew1) | exact HB.out))); rintro e w35 ⟨rfl, hb⟩; refine ⟨_, rfl, ?_⟩; have n0_ := Aside0.mk (Kd.R_below (by (with_reducible repeat (first | apply Kd.R_alloc | apply Kd.R_drewN | apply Kd.R_drew)); exact HO231.out) hb); have n1_ := Aside0.mk (Kd.R_below (by (with_reducible repeat (first | apply Kd.R_alloc | apply Kd.R_drewN | apply Kd.R_drew)); exact HO235.out) hb); have n2_ := Aside0.mk (below_step (by repeat (first | (with_reducible first | exact HB.out | apply below_alloc | apply pw_below_drewN | apply below_drew1) | exact HB.out)) hb); clear HO231; clear HO235; clear HB; have HO231 := n0_; have HO235 := n1_; have HB := n2_; clear n0_ n1_ n2_; (try clear hb); (try clear hb2); (try clear hk); (try clear hi)))
          go_meet
          case rel => exact ⟨_, (true), (by first | rfl | (simp; done) | (simp [*]; done)), H', ⟨by first | omega | exact Nat.le_refl _⟩, ⟨by (with_reducible repeat (first | apply Kd.R_alloc | apply Kd.R_drewN | apply Kd.R_drew)); exact Kd.R_mono HO231.out (fun _ hk => trivial)⟩, ⟨by repeat (first | (with_reducible first | exact HB.out | apply below_alloc | apply pw_below_drewN | apply below_drew1) | exact HB.out)⟩⟩
      · rw [if_neg c10] at H
        have c10b0 : (t229 == 0) = false := beq_eq_false_iff_ne.mpr c10
        have c10b1 : (t229 != 0) = true := bne_iff_ne.mpr c10
        (first | rw [c10b0] | (simp only [i64_w, i32_w]; rw [c10b0]) | skip)
        have H' := Aside0.mk H
        clear H
        go_wp2_with (first | ((with_reducible refine gate_callee (f := 13) rfl ?_); refine goesL_ (some 29) rfl rfl Tryd.func13 (by kernel_rfl) rfl #[] rfl (by (try simp only [List.map_toArray, List.map_cons, List.map_nil]); first | done | rfl | (simp only [List.length_drop, List.length_take]; rfl)) ?_; (with_reducible refine (rhynelaw07_counts.calls k  true _ ?side1 A8.out).mono ?_); (case side1 => exact glob_below HG.out (by repeat (first | (with_reducible first | exact HB.out | apply below_alloc | apply pw_below_drewN | apply below_drew1) | exact HB.out))); rintro e w36 ⟨rfl, hb⟩; refine ⟨_, rfl, ?_⟩; have n0_ := Aside0.mk (Kd.R_below (by (with_reducible repeat (first | apply Kd.R_alloc | apply Kd.R_drewN | apply Kd.R_drew)); exact HO231.out) hb); have n1_ := Aside0.mk (Kd.R_below (by (with_reducible repeat (first | apply Kd.R_alloc | apply Kd.R_drewN | apply Kd.R_drew)); exact HO235.out) hb); have n2_ := Aside0.mk (below_step (by repeat (first | (with_reducible first | exact HB.out | apply below_alloc | apply pw_below_drewN | apply below_drew1) | exact HB.out)) hb); clear HO231; clear HO235; clear HB; have HO231 := n0_; have HO235 := n1_; have HB := n2_; clear n0_ n1_ n2_; (try clear hb); (try clear hb2); (try clear hk); (try clear hi)))
        go_meet
        case rel => exact ⟨_, (true), (by first | rfl | (simp; done) | (simp [*]; done)), H', ⟨by first | omega | exact Nat.le_refl _⟩, ⟨by (with_reducible repeat (first | apply Kd.R_alloc | apply Kd.R_drewN | apply Kd.R_drew)); exact Kd.R_mono HO231.out (fun _ hk => trivial)⟩, ⟨by repeat (first | (with_reducible first | exact HB.out | apply below_alloc | apply pw_below_drewN | apply below_drew1) | exact HB.out)⟩⟩
    · replace c9 := Bool.eq_false_iff.mpr c9
      subst c9
      have H1 : (rhynelaw07_VlqLess.j0 k (Int.tmod a0 4611686018427387904) t228 true) = some r := by rw [if_neg (show ¬ (false = true) by decide)] at H; exact H
      clear H
      have H := H1
      clear H1
      have H' := Aside0.mk H
      clear H
      go_wp2_with (first | ((with_reducible refine gate_callee (f := 13) rfl ?_); refine goesL_ (some 29) rfl rfl Tryd.func13 (by kernel_rfl) rfl #[] rfl (by (try simp only [List.map_toArray, List.map_cons, List.map_nil]); first | done | rfl | (simp only [List.length_drop, List.length_take]; rfl)) ?_; (with_reducible refine (rhynelaw07_counts.calls k  false _ ?side1 A8.out).mono ?_); (case side1 => exact glob_below HG.out (by repeat (first | (with_reducible first | exact HB.out | apply below_alloc | apply pw_below_drewN | apply below_drew1) | exact HB.out))); rintro e w37 ⟨rfl, hb⟩; refine ⟨_, rfl, ?_⟩; have n0_ := Aside0.mk (Kd.R_below (by (with_reducible repeat (first | apply Kd.R_alloc | apply Kd.R_drewN | apply Kd.R_drew)); exact HO231.out) hb); have n1_ := Aside0.mk (Kd.R_below (by (with_reducible repeat (first | apply Kd.R_alloc | apply Kd.R_drewN | apply Kd.R_drew)); exact HO235.out) hb); have n2_ := Aside0.mk (below_step (by repeat (first | (with_reducible first | exact HB.out | apply below_alloc | apply pw_below_drewN | apply below_drew1) | exact HB.out)) hb); clear HO231; clear HO235; clear HB; have HO231 := n0_; have HO235 := n1_; have HB := n2_; clear n0_ n1_ n2_; (try clear hb); (try clear hb2); (try clear hk); (try clear hi)))
      go_meet
      case rel => exact ⟨_, (true), (by first | rfl | (simp; done) | (simp [*]; done)), H', ⟨by first | omega | exact Nat.le_refl _⟩, ⟨by (with_reducible repeat (first | apply Kd.R_alloc | apply Kd.R_drewN | apply Kd.R_drew)); exact Kd.R_mono HO231.out (fun _ hk => trivial)⟩, ⟨by repeat (first | (with_reducible first | exact HB.out | apply below_alloc | apply pw_below_drewN | apply below_drew1) | exact HB.out)⟩⟩
  case rest =>
    clear HC5
    try clear c1
    try clear c2
    try clear p2
    try clear hcv2
    try clear hcv3
    try clear c5
    try clear c9
    try clear c10
    try clear c10b0
    try clear c10b1
    try clear c11
    try clear c11b0
    try clear c11b1
    try clear c12
    try clear c12b0
    try clear c13
    try clear c13b0
    try clear c13b1
    try clear c17
    try clear c17b0
    try clear c17b1
    try clear c17b2
    try clear hcv21
    try clear hcv22
    try clear c26
    try clear c26b0
    try clear c26b1
    try clear c26b2
    try clear hcv30
    try clear hcv31
    obtain ⟨kq, x68_4, rfl, HA, HJ4, HO_5, HB⟩ := hcut
    cases kq with
    | zero => exact absurd HA.out (by simp [rhynelaw07_VlqLess.j0])
    | succ kj4 =>
      have H := HA.out
      clear HA
      simp only [rhynelaw07_VlqLess.j0] at H
      by_cases c38 : x68_4 = true
      · subst c38
        have H1 : (some false) = some r := by rw [if_pos rfl] at H; exact H
        clear H
        have H := H1
        clear H1
        obtain rfl := Option.some.inj H
        go_wp2
        go_ret
        exact ⟨by first | rfl | (simp [errW_none, errW_some] <;> rfl) | (simp [*, errW_none, errW_some] <;> rfl), by repeat (first | (with_reducible first | exact HB.out | apply below_alloc | apply pw_below_drewN | apply below_drew1) | exact HB.out)⟩
      · replace c38 := Bool.eq_false_iff.mpr c38
        subst c38
        have H1 : (rhynelaw07_VlqLess.l0 kj4 (Int.tmod a0 4611686018427387904) (t228.length : Int)) = some r := by rw [if_neg (show ¬ (false = true) by decide)] at H; exact H
        clear H
        have H := H1
        clear H1
        have H' := Aside0.mk H
        clear H
        obtain ⟨Ao39, co39, eo39⟩ := Kd.R_slice HO_5.out
        subst eo39
        go_wp2
        go_loopg [9] kj4 (fun kq v9 w' => ∃ (x9_2 : Int), v9 = .int .i64 x9_2 ∧ Aside0 (rhynelaw07_VlqLess.l0 kq (Int.tmod a0 4611686018427387904) x9_2 = some r) ∧ Aside0 (kq ≤ kj4) ∧ Aside0 (Below w.heap.size w w'))
        case atStart => exact ⟨((t228.length : Int)), (by first | rfl | (simp; done) | (simp [*]; done)), H', ⟨Nat.le_refl _⟩, ⟨by repeat (first | (with_reducible first | exact HB.out | apply below_alloc | apply pw_below_drewN | apply below_drew1) | exact HB.out)⟩⟩
        case round =>
          clear H'
          try clear c1
          try clear c2
          try clear p2
          try clear hcv2
          try clear c3
          try clear hcv3
          try clear c5
          try clear c9
          try clear c10
          try clear c10b0
          try clear c10b1
          try clear c11
          try clear c11b0
          try clear c11b1
          try clear c12
          try clear c12b0
          try clear c13
          try clear c13b0
          try clear c13b1
          try clear c17
          try clear c17b0
          try clear c17b1
          try clear c17b2
          try clear hcv21
          try clear hcv22
          try clear c26
          try clear c26b0
          try clear c26b1
          try clear c26b2
          try clear hcv30
          try clear hcv31
          try clear c38
          try clear p2
          obtain ⟨x9_2, rfl, HA, HK2, HB⟩ := hrel
          cases gk with
          | zero => exact absurd HA.out (by simp [rhynelaw07_VlqLess.l0])
          | succ k2 =>
            have H := HA.out
            clear HA
            simp only [rhynelaw07_VlqLess.l0] at H
            by_cases c40 : x9_2 ≤ 8
            · rw [if_pos c40] at H
              have c40b0 : decide (x9_2 ≤ 8) = true := decide_eq_true c40
              clear c40
              replace H := Option.bind_eq_some_iff.mp H
              obtain ⟨⟨t237, t238⟩, A410, H⟩ := H
              replace H : ((vlq_Get.f k2 t237).bind fun bt241 => (if t238 = 0 then (if bt241.2.2 = 0 then (if bt241.1 = (Int.tmod a0 4611686018427387904) then (if bt241.2.1 = x9_2 then (rhynelaw07_VlqLess.l0 k2 (Int.tmod a0 4611686018427387904) (wrap64 (x9_2 * 2))) else (some false)) else (some false)) else (some false)) else (some false))) = some r := H
              have A41 := Aside0.mk A410
              clear A410
              replace H := Option.bind_eq_some_iff.mp H
              obtain ⟨⟨t241, t242, t243⟩, A420, H⟩ := H
              replace H : (if t238 = 0 then (if t243 = 0 then (if t241 = (Int.tmod a0 4611686018427387904) then (if t242 = x9_2 then (rhynelaw07_VlqLess.l0 k2 (Int.tmod a0 4611686018427387904) (wrap64 (x9_2 * 2))) else (some false)) else (some false)) else (some false)) else (some false)) = some r := H
              have A42 := Aside0.mk A420
              clear A420
              by_cases c43 : t238 = 0
              · rw [if_pos c43] at H
                have c43b0 : (t238 == 0) = true := beq_iff_eq.mpr c43
                have c43b1 : (t238 != 0) = false := bne_eq_false_iff_eq.mpr c43
                clear c43
                by_cases c44 : t243 = 0
                · rw [if_pos c44] at H
                  have c44b0 : (t243 == 0) = true := beq_iff_eq.mpr c44
                  have c44b1 : (t243 != 0) = false := bne_eq_false_iff_eq.mpr c44
                  clear c44
                  by_cases c45 : t241 = (Int.tmod a0 4611686018427387904)
                  · rw [if_pos c45] at H
                    have c45b0 : (t241 == (Int.tmod a0 4611686018427387904)) = true := beq_iff_eq.mpr c45
                    have c45b1 : (t241 != (Int.tmod a0 4611686018427387904)) = false := bne_eq_false_iff_eq.mpr c45
                    clear c45
                    by_cases c46 : t242 = x9_2
                    · rw [if_pos c46] at H
                      have c46b0 : (t242 == x9_2) = true := beq_iff_eq.mpr c46
                      have c46b1 : (t242 != x9_2) = false := bne_eq_false_iff_eq.mpr c46
                      clear c46
                      have H' := Aside0.mk H
                      clear H
                      go_wp2_with (first | ((with_reducible refine gate_callee (f := 12) rfl ?_); refine goesL_ (some 78) rfl rfl Tryd.func12 (by kernel_rfl) rfl #[.int .u64 (Int.tmod a0 4611686018427387904), .int .i64 x9_2] rfl (by (try simp only [List.map_toArray, List.map_cons, List.map_nil]); first | done | rfl | (simp only [List.length_drop, List.length_take]; rfl)) ?_; (with_reducible refine (vlq_PutIn_uint64.calls k2 (Int.tmod a0 4611686018427387904) x9_2 t237 t238 _ ?side1 A41.out).mono ?_); (case side1 => exact glob_below HG.out (by repeat (first | (with_reducible first | exact HB.out | apply below_alloc | apply pw_below_drewN | apply below_drew1) | exact HB.out))); rintro e w47 ⟨v239, rfl, ho0, hb⟩; refine ⟨_, rfl, ?_⟩; have n0_ := Aside0.mk (Kd.R_lower ho0 (below_size (by repeat (first | (with_reducible first | exact HB.out | apply below_alloc | apply pw_below_drewN | apply below_drew1) | exact HB.out)))); have n1_ := Aside0.mk (below_step (by repeat (first | (with_reducible first | exact HB.out | apply below_alloc | apply pw_below_drewN | apply below_drew1) | exact HB.out)) hb); clear HB; have HO240 := n0_; have HB := n1_; clear n0_ n1_; (try clear hb); (try clear hb2); (try clear hk); (try clear hi); (try clear ho0); obtain ⟨Ao48, co48, eo48⟩ := Kd.R_slice HO240.out; subst eo48) | ((with_reducible refine gate_callee (f := 19) rfl ?_); refine goesL_ (some 83) rfl rfl Tryd.func19 (by kernel_rfl) rfl #[.slice Ao48 t237.length co48] rfl (by (try simp only [List.map_toArray, List.map_cons, List.map_nil]); first | done | rfl | (simp only [List.length_drop, List.length_take]; rfl)) ?_; (with_reducible refine (vlq_Get.calls k2 _ _ t237 t241 t242 t243 _ ?side1 ?side2 A42.out).mono ?_); (case side1 => repeat (first | exact (Kd.R_reads' HO240.out).2.2 | (with_reducible refine Kd.C_alloc ?_ _) | (with_reducible refine Kd.C_drewN ?_ _) | (with_reducible refine Kd.C_drew ?_))); (case side2 => exact (Kd.R_reads' HO240.out).2.1); rintro e w' ⟨rfl, ⟨nd, rfl⟩⟩; refine ⟨_, rfl, ?_⟩))
                      go_roundg k2
                      case measure => have := HJ4.out; have := HK2.out; omega
                      case rel => exact ⟨(wrap64 (x9_2 * 2)), (by first | rfl | (simp; done) | (simp [*]; done)), H', ⟨by have := HJ4.out; have := HK2.out; omega⟩, ⟨by repeat (first | (with_reducible first | exact HB.out | apply below_alloc | apply pw_below_drewN | apply below_drew1) | exact HB.out)⟩⟩
                    · rw [if_neg c46] at H
                      have c46b0 : (t242 == x9_2) = false := beq_eq_false_iff_ne.mpr c46
                      have c46b1 : (t242 != x9_2) = true := bne_iff_ne.mpr c46
                      obtain rfl := Option.some.inj H
                      go_wp2_with (first | ((with_reducible refine gate_callee (f := 12) rfl ?_); refine goesL_ (some 78) rfl rfl Tryd.func12 (by kernel_rfl) rfl #[.int .u64 (Int.tmod a0 4611686018427387904), .int .i64 x9_2] rfl (by (try simp only [List.map_toArray, List.map_cons, List.map_nil]); first | done | rfl | (simp only [List.length_drop, List.length_take]; rfl)) ?_; (with_reducible refine (vlq_PutIn_uint64.calls k2 (Int.tmod a0 4611686018427387904) x9_2 t237 t238 _ ?side1 A41.out).mono ?_); (case side1 => exact glob_below HG.out (by repeat (first | (with_reducible first | exact HB.out | apply below_alloc | apply pw_below_drewN | apply below_drew1) | exact HB.out))); rintro e w49 ⟨v239, rfl, ho0, hb⟩; refine ⟨_, rfl, ?_⟩; have n0_ := Aside0.mk (Kd.R_lower ho0 (below_size (by repeat (first | (with_reducible first | exact HB.out | apply below_alloc | apply pw_below_drewN | apply below_drew1) | exact HB.out)))); have n1_ := Aside0.mk (below_step (by repeat (first | (with_reducible first | exact HB.out | apply below_alloc | apply pw_below_drewN | apply below_drew1) | exact HB.out)) hb); clear HB; have HO240 := n0_; have HB := n1_; clear n0_ n1_; (try clear hb); (try clear hb2); (try clear hk); (try clear hi); (try clear ho0); obtain ⟨Ao50, co50, eo50⟩ := Kd.R_slice HO240.out; subst eo50) | ((with_reducible refine gate_callee (f := 19) rfl ?_); refine goesL_ (some 83) rfl rfl Tryd.func19 (by kernel_rfl) rfl #[.slice Ao50 t237.length co50] rfl (by (try simp only [List.map_toArray, List.map_cons, List.map_nil]); first | done | rfl | (simp only [List.length_drop, List.length_take]; rfl)) ?_; (with_reducible refine (vlq_Get.calls k2 _ _ t237 t241 t242 t243 _ ?side1 ?side2 A42.out).mono ?_); (case side1 => repeat (first | exact (Kd.R_reads' HO240.out).2.2 | (with_reducible refine Kd.C_alloc ?_ _) | (with_reducible refine Kd.C_drewN ?_ _) | (with_reducible refine Kd.C_drew ?_))); (case side2 => exact (Kd.R_reads' HO240.out).2.1); rintro e w' ⟨rfl, ⟨nd, rfl⟩⟩; refine ⟨_, rfl, ?_⟩))
                      go_ret
                      exact ⟨by first | rfl | (simp [errW_none, errW_some] <;> rfl) | (simp [*, errW_none, errW_some] <;> rfl), by repeat (first | (with_reducible first | exact HB.out | apply below_alloc | apply pw_below_drewN | apply below_drew1) | exact HB.out)⟩
                  · rw [if_neg c45] at H
                    have c45b0 : (t241 == (Int.tmod a0 4611686018427387904)) = false := beq_eq_false_iff_ne.mpr c45
                    have c45b1 : (t241 != (Int.tmod a0 4611686018427387904)) = true := bne_iff_ne.mpr c45
                    obtain rfl := Option.some.inj H
                    go_wp2_with (first | ((with_reducible refine gate_callee (f := 12) rfl ?_); refine goesL_ (some 78) rfl rfl Tryd.func12 (by kernel_rfl) rfl #[.int .u64 (Int.tmod a0 4611686018427387904), .int .i64 x9_2] rfl (by (try simp only [List.map_toArray, List.map_cons, List.map_nil]); first | done | rfl | (simp only [List.length_drop, List.length_take]; rfl)) ?_; (with_reducible refine (vlq_PutIn_uint64.calls k2 (Int.tmod a0 4611686018427387904) x9_2 t237 t238 _ ?side1 A41.out).mono ?_); (case side1 => exact glob_below HG.out (by repeat (first | (with_reducible first | exact HB.out | apply below_alloc | apply pw_below_drewN | apply below_drew1) | exact HB.out))); rintro e w51 ⟨v239, rfl, ho0, hb⟩; refine ⟨_, rfl, ?_⟩; have n0_ := Aside0.mk (Kd.R_lower ho0 (below_size (by repeat (first | (with_reducible first | exact HB.out | apply below_alloc | apply pw_below_drewN | apply below_drew1) | exact HB.out)))); have n1_ := Aside0.mk (below_step (by repeat (first | (with_reducible first | exact HB.out | apply below_alloc | apply pw_below_drewN | apply below_drew1) | exact HB.out)) hb); clear HB; have HO240 := n0_; have HB := n1_; clear n0_ n1_; (try clear hb); (try clear hb2); (try clear hk); (try clear hi); (try clear ho0); obtain ⟨Ao52, co52, eo52⟩ := Kd.R_slice HO240.out; subst eo52) | ((with_reducible refine gate_callee (f := 19) rfl ?_); refine goesL_ (some 83) rfl rfl Tryd.func19 (by kernel_rfl) rfl #[.slice Ao52 t237.length co52] rfl (by (try simp only [List.map_toArray, List.map_cons, List.map_nil]); first | done | rfl | (simp only [List.length_drop, List.length_take]; rfl)) ?_; (with_reducible refine (vlq_Get.calls k2 _ _ t237 t241 t242 t243 _ ?side1 ?side2 A42.out).mono ?_); (case side1 => repeat (first | exact (Kd.R_reads' HO240.out).2.2 | (with_reducible refine Kd.C_alloc ?_ _) | (with_reducible refine Kd.C_drewN ?_ _) | (with_reducible refine Kd.C_drew ?_))); (case side2 => exact (Kd.R_reads' HO240.out).2.1); rintro e w' ⟨rfl, ⟨nd, rfl⟩⟩; refine ⟨_, rfl, ?_⟩))
                    go_ret
                    exact ⟨by first | rfl | (simp [errW_none, errW_some] <;> rfl) | (simp [*, errW_none, errW_some] <;> rfl), by repeat (first | (with_reducible first | exact HB.out | apply below_alloc | apply pw_below_drewN | apply below_drew1) | exact HB.out)⟩
                · rw [if_neg c44] at H
                  have c44b0 : (t243 == 0) = false := beq_eq_false_iff_ne.mpr c44
                  have c44b1 : (t243 != 0) = true := bne_iff_ne.mpr c44
                  obtain rfl := Option.some.inj H
                  go_wp2_with (first | ((with_reducible refine gate_callee (f := 12) rfl ?_); refine goesL_ (some 78) rfl rfl Tryd.func12 (by kernel_rfl) rfl #[.int .u64 (Int.tmod a0 4611686018427387904), .int .i64 x9_2] rfl (by (try simp only [List.map_toArray, List.map_cons, List.map_nil]); first | done | rfl | (simp only [List.length_drop, List.length_take]; rfl)) ?_; (with_reducible refine (vlq_PutIn_uint64.calls k2 (Int.tmod a0 4611686018427387904) x9_2 t237 t238 _ ?side1 A41.out).mono ?_); (case side1 => exact glob_below HG.out (by repeat (first | (with_reducible first | exact HB.out | apply below_alloc | apply pw_below_drewN | apply below_drew1) | exact HB.out))); rintro e w53 ⟨v239, rfl, ho0, hb⟩; refine ⟨_, rfl, ?_⟩; have n0_ := Aside0.mk (Kd.R_lower ho0 (below_size (by repeat (first | (with_reducible first | exact HB.out | apply below_alloc | apply pw_below_drewN | apply below_drew1) | exact HB.out)))); have n1_ := Aside0.mk (below_step (by repeat (first | (with_reducible first | exact HB.out | apply below_alloc | apply pw_below_drewN | apply below_drew1) | exact HB.out)) hb); clear HB; have HO240 := n0_; have HB := n1_; clear n0_ n1_; (try clear hb); (try clear hb2); (try clear hk); (try clear hi); (try clear ho0); obtain ⟨Ao54, co54, eo54⟩ := Kd.R_slice HO240.out; subst eo54) | ((with_reducible refine gate_callee (f := 19) rfl ?_); refine goesL_ (some 83) rfl rfl Tryd.func19 (by kernel_rfl) rfl #[.slice Ao54 t237.length co54] rfl (by (try simp only [List.map_toArray, List.map_cons, List.map_nil]); first | done | rfl | (simp only [List.length_drop, List.length_take]; rfl)) ?_; (with_reducible refine (vlq_Get.calls k2 _ _ t237 t241 t242 t243 _ ?side1 ?side2 A42.out).mono ?_); (case side1 => repeat (first | exact (Kd.R_reads' HO240.out).2.2 | (with_reducible refine Kd.C_alloc ?_ _) | (with_reducible refine Kd.C_drewN ?_ _) | (with_reducible refine Kd.C_drew ?_))); (case side2 => exact (Kd.R_reads' HO240.out).2.1); rintro e w' ⟨rfl, ⟨nd, rfl⟩⟩; refine ⟨_, rfl, ?_⟩))
                  go_ret
                  exact ⟨by first | rfl | (simp [errW_none, errW_some] <;> rfl) | (simp [*, errW_none, errW_some] <;> rfl), by repeat (first | (with_reducible first | exact HB.out | apply below_alloc | apply pw_below_drewN | apply below_drew1) | exact HB.out)⟩
              · rw [if_neg c43] at H
                have c43b0 : (t238 == 0) = false := beq_eq_false_iff_ne.mpr c43
                have c43b1 : (t238 != 0) = true := bne_iff_ne.mpr c43
                obtain rfl := Option.some.inj H
                go_wp2_with (first | ((with_reducible refine gate_callee (f := 12) rfl ?_); refine goesL_ (some 78) rfl rfl Tryd.func12 (by kernel_rfl) rfl #[.int .u64 (Int.tmod a0 4611686018427387904), .int .i64 x9_2] rfl (by (try simp only [List.map_toArray, List.map_cons, List.map_nil]); first | done | rfl | (simp only [List.length_drop, List.length_take]; rfl)) ?_; (with_reducible refine (vlq_PutIn_uint64.calls k2 (Int.tmod a0 4611686018427387904) x9_2 t237 t238 _ ?side1 A41.out).mono ?_); (case side1 => exact glob_below HG.out (by repeat (first | (with_reducible first | exact HB.out | apply below_alloc | apply pw_below_drewN | apply below_drew1) | exact HB.out))); rintro e w55 ⟨v239, rfl, ho0, hb⟩; refine ⟨_, rfl, ?_⟩; have n0_ := Aside0.mk (Kd.R_lower ho0 (below_size (by repeat (first | (with_reducible first | exact HB.out | apply below_alloc | apply pw_below_drewN | apply below_drew1) | exact HB.out)))); have n1_ := Aside0.mk (below_step (by repeat (first | (with_reducible first | exact HB.out | apply below_alloc | apply pw_below_drewN | apply below_drew1) | exact HB.out)) hb); clear HB; have HO240 := n0_; have HB := n1_; clear n0_ n1_; (try clear hb); (try clear hb2); (try clear hk); (try clear hi); (try clear ho0); obtain ⟨Ao56, co56, eo56⟩ := Kd.R_slice HO240.out; subst eo56) | ((with_reducible refine gate_callee (f := 19) rfl ?_); refine goesL_ (some 83) rfl rfl Tryd.func19 (by kernel_rfl) rfl #[.slice Ao56 t237.length co56] rfl (by (try simp only [List.map_toArray, List.map_cons, List.map_nil]); first | done | rfl | (simp only [List.length_drop, List.length_take]; rfl)) ?_; (with_reducible refine (vlq_Get.calls k2 _ _ t237 t241 t242 t243 _ ?side1 ?side2 A42.out).mono ?_); (case side1 => repeat (first | exact (Kd.R_reads' HO240.out).2.2 | (with_reducible refine Kd.C_alloc ?_ _) | (with_reducible refine Kd.C_drewN ?_ _) | (with_reducible refine Kd.C_drew ?_))); (case side2 => exact (Kd.R_reads' HO240.out).2.1); rintro e w' ⟨rfl, ⟨nd, rfl⟩⟩; refine ⟨_, rfl, ?_⟩))
                go_ret
                exact ⟨by first | rfl | (simp [errW_none, errW_some] <;> rfl) | (simp [*, errW_none, errW_some] <;> rfl), by repeat (first | (with_reducible first | exact HB.out | apply below_alloc | apply pw_below_drewN | apply below_drew1) | exact HB.out)⟩
            · rw [if_neg c40] at H
              have c40b0 : decide (x9_2 ≤ 8) = false := decide_eq_false c40
              clear c40
              obtain rfl := Option.some.inj H
              go_wp2
              go_ret
              exact ⟨by first | rfl | (simp [errW_none, errW_some] <;> rfl) | (simp [*, errW_none, errW_some] <;> rfl), by repeat (first | (with_reducible first | exact HB.out | apply below_alloc | apply pw_below_drewN | apply below_drew1) | exact HB.out)⟩

/-- THE ONE PURE STATEMENT of rhynelaw07_VlqLess: yours. -/
def rhynelaw07_VlqLess.Pure : Prop := ∀ (a0 : Int) (a1 : Int), (Lit.int .u64 a0).wf = true → (Lit.int .u64 a1).wf = true → ∃ k, rhynelaw07_VlqLess.f k a0 a1 = some true
theorem rhynelaw07_VlqLess.walk (P : rhynelaw07_VlqLess.Pure) (a0 : Int) (a1 : Int) (w : World) (w0 : (Lit.int .u64 a0).wf = true) (w1 : (Lit.int .u64 a1).wf = true) (hG : GlobT w) :
    Calls Tryd.prog 5 #[.int .u64 a0, .int .u64 a1] w fun e w' => e = .returned (.bool true) ∧ Below w.heap.size w w' := by
  obtain ⟨k, h⟩ := P a0 a1 w0 w1
  refine (rhynelaw07_VlqLess.calls k a0 a1 true w hG h).mono ?_
  rintro e w' ⟨rfl, hd⟩
  exact ⟨rfl, hd⟩

/-! ### rhyneref07_Get: function 20 -/
mutual
def rhyneref07_Get.l0 : Nat → ByteArray → Int → Int → Option (Int × Int × Int)
  | 0, _, _, _ => none
  | k + 1, x0, x5, x6 => if 0 < (x0.size : Int) then (if x6 < (wrap64 (Int.tdiv (wrap64 (bt x0 0)) 64)) then (rhyneref07_Get.l0 k x0 (wrap64 (2 * x5)) (wrap64 (x6 + 1))) else (if (x0.size : Int) < x5 then (some (0, 0, 3)) else (rhyneref07_Get.l1 k x0 x5 (IntKind.u64.wrap (Int.tmod (bt x0 0) 64)) 1))) else (none)
def rhyneref07_Get.l1 : Nat → ByteArray → Int → Int → Int → Option (Int × Int × Int)
  | 0, _, _, _, _ => none
  | k + 1, x0, x5, x7, x8 => if x8 < x5 then (if 0 ≤ x8 then (if x8 < (x0.size : Int) then (rhyneref07_Get.l1 k x0 x5 (IntKind.u64.wrap ((IntKind.u64.wrap (x7 * 256)) + (IntKind.u64.wrap (bt x0 x8)))) (wrap64 (x8 + 1))) else (none)) else (none)) else (some (x7, x5, 0))
end
def rhyneref07_Get.f (k : Nat) (a0 : ByteArray) : Option (Int × Int × Int) := if a0.toList = ([] : List UInt8) then (some (0, 0, 3)) else (rhyneref07_Get.l0 k a0 1 0)
theorem rhyneref07_Get.mono_l : ∀ k, (∀ y0 y1 y2, LeO (rhyneref07_Get.l0 k y0 y1 y2) (rhyneref07_Get.l0 (k + 1) y0 y1 y2)) ∧ (∀ y0 y1 y2 y3, LeO (rhyneref07_Get.l1 k y0 y1 y2 y3) (rhyneref07_Get.l1 (k + 1) y0 y1 y2 y3))
  | 0 => ⟨fun _ _ _ r h => by simp [rhyneref07_Get.l0] at h, fun _ _ _ _ r h => by simp [rhyneref07_Get.l1] at h⟩
  | k + 1 => by
    obtain ⟨ih0, ih1⟩ := rhyneref07_Get.mono_l k
    refine ⟨?_, ?_⟩
    · intro y0 y1 y2
      unfold rhyneref07_Get.l0
      repeat' first
      | (with_reducible exact ih0 _ _ _)
      | (with_reducible exact ih1 _ _ _ _)
      | (with_reducible exact LeO.refl _)
      | (with_reducible exact LeO.none _)
      | (with_reducible refine LeO.ite ?_ ?_)
      | (with_reducible refine LeO.bind ?_ (fun _ => ?_))
      | exact ih0 _ _ _
      | exact ih1 _ _ _ _
      | exact LeO.none _
      | refine LeO.ite ?_ ?_
      | refine LeO.bind ?_ (fun _ => ?_)
    · intro y0 y1 y2 y3
      unfold rhyneref07_Get.l1
      repeat' first
      | (with_reducible exact ih0 _ _ _)
      | (with_reducible exact ih1 _ _ _ _)
      | (with_reducible exact LeO.refl _)
      | (with_reducible exact LeO.none _)
      | (with_reducible refine LeO.ite ?_ ?_)
      | (with_reducible refine LeO.bind ?_ (fun _ => ?_))
      | exact ih0 _ _ _
      | exact ih1 _ _ _ _
      | exact LeO.none _
      | refine LeO.ite ?_ ?_
      | refine LeO.bind ?_ (fun _ => ?_)
theorem rhyneref07_Get.mono : ∀ a0 k, LeO (rhyneref07_Get.f k a0) (rhyneref07_Get.f (k + 1) a0) := by
  intro a0 k
  obtain ⟨ih0, ih1⟩ := rhyneref07_Get.mono_l k
  unfold rhyneref07_Get.f
  repeat' first
      | (with_reducible exact ih0 _ _ _)
      | (with_reducible exact ih1 _ _ _ _)
      | (with_reducible exact LeO.refl _)
      | (with_reducible exact LeO.none _)
      | (with_reducible refine LeO.ite ?_ ?_)
      | (with_reducible refine LeO.bind ?_ (fun _ => ?_))
      | exact ih0 _ _ _
      | exact ih1 _ _ _ _
      | exact LeO.none _
      | refine LeO.ite ?_ ?_
      | refine LeO.bind ?_ (fun _ => ?_)
set_option maxHeartbeats 8000000 in
set_option maxRecDepth 100000 in
theorem rhyneref07_Get.calls (k : Nat) (a0 : ByteArray) (r1 : Int) (r2 : Int) (r3 : Int) (w : World) (h : rhyneref07_Get.f k a0 = some (r1, r2, r3)) :
    Calls Tryd.prog 20 #[.string a0] w fun e w' => e = .returned (.tuple #[.int .u64 r1, .int .i64 r2, .int .i64 r3]) ∧ Drawn0 w w' := by
  have H : (if a0.toList = ([] : List UInt8) then (some (0, 0, 3)) else (rhyneref07_Get.l0 k a0 1 0)) = some (r1, r2, r3) := h
  clear h
  by_cases c2 : a0.toList = ([] : List UInt8)
  · rw [if_pos c2] at H
    have c2b0 : (a0.toList == ([] : List UInt8)) = true := beq_iff_eq.mpr c2
    have c2b1 : (a0.toList != ([] : List UInt8)) = false := bne_eq_false_iff_eq.mpr c2
    clear c2
    simp only [Option.some.injEq, Prod.mk.injEq] at H
    obtain ⟨rfl, rfl, rfl⟩ := H
    go_enter Tryd.func20, Tryd.ntmps20
    go_wp2
    go_ret3
    exact ⟨by first | rfl | (simp; done) | (simp [*]; done), by repeat (first | exact Drawn0.refl _ | apply Drawn0.step)⟩
  · rw [if_neg c2] at H
    have c2b0 : (a0.toList == ([] : List UInt8)) = false := beq_eq_false_iff_ne.mpr c2
    have c2b1 : (a0.toList != ([] : List UInt8)) = true := bne_iff_ne.mpr c2
    have H' := Aside0.mk H
    clear H
    go_enter Tryd.func20, Tryd.ntmps20
    go_wp2
    go_loopg [5, 6] k (fun kq v5 v6 w' => ∃ (x5_1 : Int) (x6_1 : Int), v5 = .int .i64 x5_1 ∧ v6 = .int .i64 x6_1 ∧ Aside0 (rhyneref07_Get.l0 kq a0 x5_1 x6_1 = some (r1, r2, r3)) ∧ Aside0 (kq ≤ k) ∧ Drawn0 w w')
    case atStart => exact ⟨(1), (0), (by first | rfl | (simp; done) | (simp [*]; done)), (by first | rfl | (simp; done) | (simp [*]; done)), H', ⟨Nat.le_refl _⟩, by repeat (first | exact Drawn0.refl _ | apply Drawn0.step)⟩
    case round =>
      clear H'
      try clear c2
      try clear c2b0
      try clear c2b1
      try clear p2
      obtain ⟨x5_1, x6_1, rfl, rfl, HA, HK1, ⟨m1, rfl⟩⟩ := hrel
      cases gk with
      | zero => exact absurd HA.out (by simp [rhyneref07_Get.l0])
      | succ k1 =>
        have H := HA.out
        clear HA
        simp only [rhyneref07_Get.l0] at H
        by_cases c3 : 0 < (a0.size : Int)
        · rw [if_pos c3] at H
          have c3b0 : decide (0 < (a0.size : Int)) = true := decide_eq_true c3
          have c3b1 : decide (0 < a0.size) = true := decide_eq_true (by omega)
          clear c3
          by_cases c5 : x6_1 < (wrap64 (Int.tdiv (wrap64 (bt a0 0)) 64))
          · rw [if_pos c5] at H
            have c5b0 : decide (x6_1 < (wrap64 (Int.tdiv (wrap64 (bt a0 0)) 64))) = true := decide_eq_true c5
            clear c5
            have H' := Aside0.mk H
            clear H
            have p4 : 0 ≤ (0 : Int) := (by omega)
            have q4 : 0 < a0.size := (by have : (0 : Int) < (a0.size : Int) := of_decide_eq_true (by first | (with_reducible assumption) | assumption); omega)
            have hx4 : ∀ h : 0 < a0.size, ((a0[0]'h).toNat : Int) = bt a0 0 := bt_at a0 0
            clear p4
            have qi4 : (0 < (a0.size : Int)) = True := eq_true (of_decide_eq_true (by first | (with_reducible assumption) | assumption))
            replace q4 := eq_true q4
            go_wp2
            go_roundg k1
            case measure => have := HK1.out; omega
            case rel => exact ⟨(wrap64 (2 * x5_1)), (wrap64 (x6_1 + 1)), (by first | rfl | (simp; done) | (simp [*]; done)), (by first | rfl | (simp; done) | (simp [*]; done)), H', ⟨by have := HK1.out; omega⟩, by repeat (first | exact Drawn0.refl _ | apply Drawn0.step)⟩
          · rw [if_neg c5] at H
            have c5b0 : decide (x6_1 < (wrap64 (Int.tdiv (wrap64 (bt a0 0)) 64))) = false := decide_eq_false c5
            clear c5
            by_cases c6 : (a0.size : Int) < x5_1
            · rw [if_pos c6] at H
              have c6b0 : decide ((a0.size : Int) < x5_1) = true := decide_eq_true c6
              clear c6
              simp only [Option.some.injEq, Prod.mk.injEq] at H
              obtain ⟨rfl, rfl, rfl⟩ := H
              have p4 : 0 ≤ (0 : Int) := (by omega)
              have q4 : 0 < a0.size := (by have : (0 : Int) < (a0.size : Int) := of_decide_eq_true (by first | (with_reducible assumption) | assumption); omega)
              have hx4 : ∀ h : 0 < a0.size, ((a0[0]'h).toNat : Int) = bt a0 0 := bt_at a0 0
              clear p4
              have qi4 : (0 < (a0.size : Int)) = True := eq_true (of_decide_eq_true (by first | (with_reducible assumption) | assumption))
              replace q4 := eq_true q4
              go_wp2
              go_ret3
              exact ⟨by first | rfl | (simp; done) | (simp [*]; done), by repeat (first | exact Drawn0.refl _ | apply Drawn0.step)⟩
            · rw [if_neg c6] at H
              have c6b0 : decide ((a0.size : Int) < x5_1) = false := decide_eq_false c6
              clear c6
              have H' := Aside0.mk H
              clear H
              have p4 : 0 ≤ (0 : Int) := (by omega)
              have q4 : 0 < a0.size := (by have : (0 : Int) < (a0.size : Int) := of_decide_eq_true (by first | (with_reducible assumption) | assumption); omega)
              have hx4 : ∀ h : 0 < a0.size, ((a0[0]'h).toNat : Int) = bt a0 0 := bt_at a0 0
              clear p4
              have qi4 : (0 < (a0.size : Int)) = True := eq_true (of_decide_eq_true (by first | (with_reducible assumption) | assumption))
              replace q4 := eq_true q4
              have p7 : 0 ≤ (0 : Int) := (by omega)
              have q7 : 0 < a0.size := (by have : (0 : Int) < (a0.size : Int) := of_decide_eq_true (by first | (with_reducible assumption) | assumption); omega)
              have hx7 : ∀ h : 0 < a0.size, ((a0[0]'h).toNat : Int) = bt a0 0 := bt_at a0 0
              clear p7
              have qi7 : (0 < (a0.size : Int)) = True := eq_true (of_decide_eq_true (by first | (with_reducible assumption) | assumption))
              replace q7 := eq_true q7
              go_wp2
              go_loopg [7, 8] k1 (fun kq v7 v8 w' => ∃ (x7_2 : Int) (x8_2 : Int), v7 = .int .u64 x7_2 ∧ v8 = .int .i64 x8_2 ∧ Aside0 (rhyneref07_Get.l1 kq a0 x5_1 x7_2 x8_2 = some (r1, r2, r3)) ∧ Aside0 (kq ≤ k1) ∧ Drawn0 w w')
              case atStart => exact ⟨(IntKind.u64.wrap (Int.tmod (bt a0 0) 64)), (1), (by first | rfl | (simp; done) | (simp [*]; done)), (by first | rfl | (simp; done) | (simp [*]; done)), H', ⟨Nat.le_refl _⟩, by repeat (first | exact Drawn0.refl _ | apply Drawn0.step)⟩
              case round =>
                clear H'
                try clear c2
                try clear c2b0
                try clear c2b1
                try clear p2
                try clear c3
                try clear c3b0
                try clear c3b1
                try clear p4
                try clear q4
                try clear hx4
                try clear qi4
                try clear c5
                try clear c5b0
                try clear c6
                try clear c6b0
                try clear p6
                try clear p7
                try clear q7
                try clear hx7
                try clear qi7
                try clear p2
                try clear p4
                try clear p7
                try clear q4
                try clear q7
                obtain ⟨x7_2, x8_2, rfl, rfl, HA, HK2, ⟨m2, rfl⟩⟩ := hrel
                cases gk with
                | zero => exact absurd HA.out (by simp [rhyneref07_Get.l1])
                | succ k2 =>
                  have H := HA.out
                  clear HA
                  simp only [rhyneref07_Get.l1] at H
                  by_cases c8 : x8_2 < x5_1
                  · rw [if_pos c8] at H
                    have c8b0 : decide (x8_2 < x5_1) = true := decide_eq_true c8
                    clear c8
                    by_cases c9 : 0 ≤ x8_2
                    · rw [if_pos c9] at H
                      have c9b0 : decide (0 ≤ x8_2) = true := decide_eq_true c9
                      clear c9
                      by_cases c10 : x8_2 < (a0.size : Int)
                      · rw [if_pos c10] at H
                        have c10b0 : decide (x8_2 < (a0.size : Int)) = true := decide_eq_true c10
                        clear c10
                        have H' := Aside0.mk H
                        clear H
                        have p11 : 0 ≤ (x8_2 : Int) := of_decide_eq_true (by first | (with_reducible assumption) | assumption)
                        have q11 : x8_2 < (a0.size : Int) := of_decide_eq_true (by first | (with_reducible assumption) | assumption)
                        have hx11 := bt_at a0 x8_2
                        replace p11 := eq_true p11
                        replace q11 := eq_true q11
                        go_wp2
                        go_roundg k2
                        case measure => have := HK1.out; have := HK2.out; omega
                        case rel => exact ⟨(IntKind.u64.wrap ((IntKind.u64.wrap (x7_2 * 256)) + (IntKind.u64.wrap (bt a0 x8_2)))), (wrap64 (x8_2 + 1)), (by first | rfl | (simp; done) | (simp [*]; done)), (by first | rfl | (simp; done) | (simp [*]; done)), H', ⟨by have := HK1.out; have := HK2.out; omega⟩, by repeat (first | exact Drawn0.refl _ | apply Drawn0.step)⟩
                      · rw [if_neg c10] at H
                        exact absurd H (by simp)
                    · rw [if_neg c9] at H
                      exact absurd H (by simp)
                  · rw [if_neg c8] at H
                    have c8b0 : decide (x8_2 < x5_1) = false := decide_eq_false c8
                    clear c8
                    simp only [Option.some.injEq, Prod.mk.injEq] at H
                    obtain ⟨rfl, rfl, rfl⟩ := H
                    go_wp2
                    go_ret3
                    exact ⟨by first | rfl | (simp; done) | (simp [*]; done), by repeat (first | exact Drawn0.refl _ | apply Drawn0.step)⟩
        · rw [if_neg c3] at H
          exact absurd H (by simp)

/-! ### rhyneref07_GetText: function 21 -/
def rhyneref07_GetText.f (k : Nat) (a0 : ByteArray) : Option (ByteArray × Int × Int) := (rhyneref07_Get.f k a0).bind fun bt244 => (if bt244.2.2 = 0 then (if bt244.1 > 65535 then (some ((⟨#[]⟩ : ByteArray), 0, 5)) else (if (wrap64 (bt244.1)) > (wrap64 ((a0.size : Int) - bt244.2.1)) then (some ((⟨#[]⟩ : ByteArray), 0, 3)) else (if 0 ≤ bt244.2.1 then (if bt244.2.1 ≤ (wrap64 (bt244.2.1 + (wrap64 (bt244.1)))) then (if (wrap64 (bt244.2.1 + (wrap64 (bt244.1)))) ≤ (a0.size : Int) then (some (a0.extract (bt244.2.1 : Int).toNat ((wrap64 (bt244.2.1 + (wrap64 (bt244.1)))) : Int).toNat, wrap64 (bt244.2.1 + (wrap64 (bt244.1))), 0)) else (none)) else (none)) else (none)))) else (some ((⟨#[]⟩ : ByteArray), 0, bt244.2.2)))
theorem rhyneref07_GetText.mono : ∀ a0 k, LeO (rhyneref07_GetText.f k a0) (rhyneref07_GetText.f (k + 1) a0) := by
  intro a0 k
  unfold rhyneref07_GetText.f
  repeat' first
      | (with_reducible exact rhyneref07_Get.mono _ _)
      | (with_reducible exact LeO.refl _)
      | (with_reducible exact LeO.none _)
      | (with_reducible refine LeO.ite ?_ ?_)
      | (with_reducible refine LeO.bind ?_ (fun _ => ?_))
      | exact rhyneref07_Get.mono _ _
      | exact LeO.none _
      | refine LeO.ite ?_ ?_
      | refine LeO.bind ?_ (fun _ => ?_)
set_option maxHeartbeats 8000000 in
set_option maxRecDepth 100000 in
theorem rhyneref07_GetText.calls (k : Nat) (a0 : ByteArray) (r1 : ByteArray) (r2 : Int) (r3 : Int) (w : World) (h : rhyneref07_GetText.f k a0 = some (r1, r2, r3)) :
    Calls Tryd.prog 21 #[.string a0] w fun e w' => e = .returned (.tuple #[.string r1, .int .i64 r2, .int .i64 r3]) ∧ Drawn0 w w' := by
  have H : ((rhyneref07_Get.f k a0).bind fun bt244 => (if bt244.2.2 = 0 then (if bt244.1 > 65535 then (some ((⟨#[]⟩ : ByteArray), 0, 5)) else (if (wrap64 (bt244.1)) > (wrap64 ((a0.size : Int) - bt244.2.1)) then (some ((⟨#[]⟩ : ByteArray), 0, 3)) else (if 0 ≤ bt244.2.1 then (if bt244.2.1 ≤ (wrap64 (bt244.2.1 + (wrap64 (bt244.1)))) then (if (wrap64 (bt244.2.1 + (wrap64 (bt244.1)))) ≤ (a0.size : Int) then (some (a0.extract (bt244.2.1 : Int).toNat ((wrap64 (bt244.2.1 + (wrap64 (bt244.1)))) : Int).toNat, wrap64 (bt244.2.1 + (wrap64 (bt244.1))), 0)) else (none)) else (none)) else (none)))) else (some ((⟨#[]⟩ : ByteArray), 0, bt244.2.2)))) = some (r1, r2, r3) := h
  clear h
  replace H := Option.bind_eq_some_iff.mp H
  obtain ⟨⟨t244, t245, t246⟩, A20, H⟩ := H
  replace H : (if t246 = 0 then (if t244 > 65535 then (some ((⟨#[]⟩ : ByteArray), 0, 5)) else (if (wrap64 (t244)) > (wrap64 ((a0.size : Int) - t245)) then (some ((⟨#[]⟩ : ByteArray), 0, 3)) else (if 0 ≤ t245 then (if t245 ≤ (wrap64 (t245 + (wrap64 (t244)))) then (if (wrap64 (t245 + (wrap64 (t244)))) ≤ (a0.size : Int) then (some (a0.extract (t245 : Int).toNat ((wrap64 (t245 + (wrap64 (t244)))) : Int).toNat, wrap64 (t245 + (wrap64 (t244))), 0)) else (none)) else (none)) else (none)))) else (some ((⟨#[]⟩ : ByteArray), 0, t246))) = some (r1, r2, r3) := H
  have A2 := Aside0.mk A20
  clear A20
  by_cases c3 : t246 = 0
  · rw [if_pos c3] at H
    have c3b0 : (t246 == 0) = true := beq_iff_eq.mpr c3
    have c3b1 : (t246 != 0) = false := bne_eq_false_iff_eq.mpr c3
    clear c3
    by_cases c4 : t244 > 65535
    · rw [if_pos c4] at H
      have c4b0 : decide (65535 < t244) = true := decide_eq_true c4
      clear c4
      simp only [Option.some.injEq, Prod.mk.injEq] at H
      obtain ⟨rfl, rfl, rfl⟩ := H
      go_enter Tryd.func21, Tryd.ntmps21
      go_wp2_with (first | ((with_reducible refine gate_callee (f := 20) rfl ?_); refine goesL_ (some 10) rfl rfl Tryd.func20 (by kernel_rfl) rfl #[.string a0] rfl (by (try simp only [List.map_toArray, List.map_cons, List.map_nil]); first | done | rfl | (simp only [List.length_drop, List.length_take]; rfl)) ?_; (with_reducible refine (rhyneref07_Get.calls k a0 t244 t245 t246 _ A2.out).mono ?_); rintro e w' ⟨rfl, ⟨nd, rfl⟩⟩; refine ⟨_, rfl, ?_⟩))
      go_ret3
      exact ⟨by first | rfl | (simp; done) | (simp [*]; done), by repeat (first | exact Drawn0.refl _ | apply Drawn0.step)⟩
    · rw [if_neg c4] at H
      have c4b0 : decide (65535 < t244) = false := decide_eq_false c4
      clear c4
      by_cases c5 : (wrap64 (t244)) > (wrap64 ((a0.size : Int) - t245))
      · rw [if_pos c5] at H
        have c5b0 : decide ((wrap64 ((a0.size : Int) - t245)) < (wrap64 (t244))) = true := decide_eq_true c5
        clear c5
        simp only [Option.some.injEq, Prod.mk.injEq] at H
        obtain ⟨rfl, rfl, rfl⟩ := H
        go_enter Tryd.func21, Tryd.ntmps21
        go_wp2_with (first | ((with_reducible refine gate_callee (f := 20) rfl ?_); refine goesL_ (some 10) rfl rfl Tryd.func20 (by kernel_rfl) rfl #[.string a0] rfl (by (try simp only [List.map_toArray, List.map_cons, List.map_nil]); first | done | rfl | (simp only [List.length_drop, List.length_take]; rfl)) ?_; (with_reducible refine (rhyneref07_Get.calls k a0 t244 t245 t246 _ A2.out).mono ?_); rintro e w' ⟨rfl, ⟨nd, rfl⟩⟩; refine ⟨_, rfl, ?_⟩))
        go_ret3
        exact ⟨by first | rfl | (simp; done) | (simp [*]; done), by repeat (first | exact Drawn0.refl _ | apply Drawn0.step)⟩
      · rw [if_neg c5] at H
        have c5b0 : decide ((wrap64 ((a0.size : Int) - t245)) < (wrap64 (t244))) = false := decide_eq_false c5
        clear c5
        by_cases c6 : 0 ≤ t245
        · rw [if_pos c6] at H
          have c6b0 := eq_true c6
          have c6b1 : decide (0 ≤ t245) = true := decide_eq_true c6
          clear c6
          by_cases c7 : t245 ≤ (wrap64 (t245 + (wrap64 (t244))))
          · rw [if_pos c7] at H
            have c7b0 := eq_true c7
            have c7b1 : decide (t245 ≤ (wrap64 (t245 + (wrap64 (t244))))) = true := decide_eq_true c7
            by_cases c8 : (wrap64 (t245 + (wrap64 (t244)))) ≤ (a0.size : Int)
            · rw [if_pos c8] at H
              have c8b0 := eq_true c8
              have c8b1 : decide ((wrap64 (t245 + (wrap64 (t244)))) ≤ (a0.size : Int)) = true := decide_eq_true c8
              simp only [Option.some.injEq, Prod.mk.injEq] at H
              obtain ⟨rfl, rfl, rfl⟩ := H
              go_enter Tryd.func21, Tryd.ntmps21
              go_wp2_with (first | ((with_reducible refine gate_callee (f := 20) rfl ?_); refine goesL_ (some 10) rfl rfl Tryd.func20 (by kernel_rfl) rfl #[.string a0] rfl (by (try simp only [List.map_toArray, List.map_cons, List.map_nil]); first | done | rfl | (simp only [List.length_drop, List.length_take]; rfl)) ?_; (with_reducible refine (rhyneref07_Get.calls k a0 t244 t245 t246 _ A2.out).mono ?_); rintro e w' ⟨rfl, ⟨nd, rfl⟩⟩; refine ⟨_, rfl, ?_⟩))
              go_ret3
              exact ⟨by first | rfl | (simp; done) | (simp [*]; done), by repeat (first | exact Drawn0.refl _ | apply Drawn0.step)⟩
            · rw [if_neg c8] at H
              exact absurd H (by simp)
          · rw [if_neg c7] at H
            exact absurd H (by simp)
        · rw [if_neg c6] at H
          exact absurd H (by simp)
  · rw [if_neg c3] at H
    have c3b0 : (t246 == 0) = false := beq_eq_false_iff_ne.mpr c3
    have c3b1 : (t246 != 0) = true := bne_iff_ne.mpr c3
    simp only [Option.some.injEq, Prod.mk.injEq] at H
    obtain ⟨rfl, rfl, rfl⟩ := H
    go_enter Tryd.func21, Tryd.ntmps21
    go_wp2_with (first | ((with_reducible refine gate_callee (f := 20) rfl ?_); refine goesL_ (some 10) rfl rfl Tryd.func20 (by kernel_rfl) rfl #[.string a0] rfl (by (try simp only [List.map_toArray, List.map_cons, List.map_nil]); first | done | rfl | (simp only [List.length_drop, List.length_take]; rfl)) ?_; (with_reducible refine (rhyneref07_Get.calls k a0 t244 t245 t246 _ A2.out).mono ?_); rintro e w' ⟨rfl, ⟨nd, rfl⟩⟩; refine ⟨_, rfl, ?_⟩))
    go_ret3
    exact ⟨by first | rfl | (simp; done) | (simp [*]; done), by repeat (first | exact Drawn0.refl _ | apply Drawn0.step)⟩

/-! ### vlq_GetText: function 22 -/
def vlq_GetText.f (k : Nat) (l0 : List Int) : Option (ByteArray × Int × Int) := (vlq_Get.f k l0).bind fun bt247 => (if bt247.2.2 = 0 then (if bt247.1 > 65535 then (some ((⟨#[]⟩ : ByteArray), 0, 5)) else (if (wrap64 (bt247.1)) > (wrap64 ((l0.length : Int) - bt247.2.1)) then (some ((⟨#[]⟩ : ByteArray), 0, 3)) else (if 0 ≤ bt247.2.1 then (if bt247.2.1 ≤ (wrap64 (bt247.2.1 + (wrap64 (bt247.1)))) then (if (wrap64 (bt247.2.1 + (wrap64 (bt247.1)))) ≤ (l0.length : Int) then (some (strOfNums ((l0.take ((wrap64 (bt247.2.1 + (wrap64 (bt247.1)))) : Int).toNat).drop (bt247.2.1 : Int).toNat), wrap64 (bt247.2.1 + (wrap64 (bt247.1))), 0)) else (none)) else (none)) else (none)))) else (some ((⟨#[]⟩ : ByteArray), 0, bt247.2.2)))
theorem vlq_GetText.mono : ∀ a0 k, LeO (vlq_GetText.f k a0) (vlq_GetText.f (k + 1) a0) := by
  intro a0 k
  unfold vlq_GetText.f
  repeat' first
      | (with_reducible exact vlq_Get.mono _ _)
      | (with_reducible exact LeO.refl _)
      | (with_reducible exact LeO.none _)
      | (with_reducible refine LeO.ite ?_ ?_)
      | (with_reducible refine LeO.bind ?_ (fun _ => ?_))
      | exact vlq_Get.mono _ _
      | exact LeO.none _
      | refine LeO.ite ?_ ?_
      | refine LeO.bind ?_ (fun _ => ?_)
set_option maxHeartbeats 8000000 in
set_option maxRecDepth 100000 in
theorem vlq_GetText.calls (k : Nat) (A0 : Option Addr) (c0 : Nat) (l0 : List Int) (r1 : ByteArray) (r2 : Int) (r3 : Int) (w : World) (hr0 : Kd.C (Kd.int .u8) w A0 l0.length l0) (hc0 : l0.length ≤ c0) (h : vlq_GetText.f k l0 = some (r1, r2, r3)) :
    Calls Tryd.prog 22 #[.slice A0 l0.length c0] w fun e w' => e = .returned (.tuple #[.string r1, .int .i64 r2, .int .i64 r3]) ∧ Drawn0 w w' := by
  have HR0 := Aside0.mk hr0
  have HC0 := Aside0.mk hc0
  clear hr0 hc0
  have H : ((vlq_Get.f k l0).bind fun bt247 => (if bt247.2.2 = 0 then (if bt247.1 > 65535 then (some ((⟨#[]⟩ : ByteArray), 0, 5)) else (if (wrap64 (bt247.1)) > (wrap64 ((l0.length : Int) - bt247.2.1)) then (some ((⟨#[]⟩ : ByteArray), 0, 3)) else (if 0 ≤ bt247.2.1 then (if bt247.2.1 ≤ (wrap64 (bt247.2.1 + (wrap64 (bt247.1)))) then (if (wrap64 (bt247.2.1 + (wrap64 (bt247.1)))) ≤ (l0.length : Int) then (some (strOfNums ((l0.take ((wrap64 (bt247.2.1 + (wrap64 (bt247.1)))) : Int).toNat).drop (bt247.2.1 : Int).toNat), wrap64 (bt247.2.1 + (wrap64 (bt247.1))), 0)) else (none)) else (none)) else (none)))) else (some ((⟨#[]⟩ : ByteArray), 0, bt247.2.2)))) = some (r1, r2, r3) := h
  clear h
  replace H := Option.bind_eq_some_iff.mp H
  obtain ⟨⟨t247, t248, t249⟩, A20, H⟩ := H
  replace H : (if t249 = 0 then (if t247 > 65535 then (some ((⟨#[]⟩ : ByteArray), 0, 5)) else (if (wrap64 (t247)) > (wrap64 ((l0.length : Int) - t248)) then (some ((⟨#[]⟩ : ByteArray), 0, 3)) else (if 0 ≤ t248 then (if t248 ≤ (wrap64 (t248 + (wrap64 (t247)))) then (if (wrap64 (t248 + (wrap64 (t247)))) ≤ (l0.length : Int) then (some (strOfNums ((l0.take ((wrap64 (t248 + (wrap64 (t247)))) : Int).toNat).drop (t248 : Int).toNat), wrap64 (t248 + (wrap64 (t247))), 0)) else (none)) else (none)) else (none)))) else (some ((⟨#[]⟩ : ByteArray), 0, t249))) = some (r1, r2, r3) := H
  have A2 := Aside0.mk A20
  clear A20
  by_cases c3 : t249 = 0
  · rw [if_pos c3] at H
    have c3b0 : (t249 == 0) = true := beq_iff_eq.mpr c3
    have c3b1 : (t249 != 0) = false := bne_eq_false_iff_eq.mpr c3
    clear c3
    by_cases c4 : t247 > 65535
    · rw [if_pos c4] at H
      have c4b0 : decide (65535 < t247) = true := decide_eq_true c4
      clear c4
      simp only [Option.some.injEq, Prod.mk.injEq] at H
      obtain ⟨rfl, rfl, rfl⟩ := H
      go_enter Tryd.func22, Tryd.ntmps22
      go_wp2_with (first | ((with_reducible refine gate_callee (f := 19) rfl ?_); refine goesL_ (some 11) rfl rfl Tryd.func19 (by kernel_rfl) rfl #[.slice A0 l0.length c0] rfl (by (try simp only [List.map_toArray, List.map_cons, List.map_nil]); first | done | rfl | (simp only [List.length_drop, List.length_take]; rfl)) ?_; (with_reducible refine (vlq_Get.calls k _ _ l0 t247 t248 t249 _ ?side1 ?side2 A2.out).mono ?_); (case side1 => repeat (first | exact HR0.out | (with_reducible refine Kd.C_alloc ?_ _) | (with_reducible refine Kd.C_drewN ?_ _) | (with_reducible refine Kd.C_drew ?_))); (case side2 => exact HC0.out); rintro e w' ⟨rfl, ⟨nd, rfl⟩⟩; refine ⟨_, rfl, ?_⟩))
      go_ret3
      exact ⟨by first | rfl | (simp; done) | (simp [*]; done), by repeat (first | exact Drawn0.refl _ | apply Drawn0.step)⟩
    · rw [if_neg c4] at H
      have c4b0 : decide (65535 < t247) = false := decide_eq_false c4
      clear c4
      by_cases c5 : (wrap64 (t247)) > (wrap64 ((l0.length : Int) - t248))
      · rw [if_pos c5] at H
        have c5b0 : decide ((wrap64 ((l0.length : Int) - t248)) < (wrap64 (t247))) = true := decide_eq_true c5
        clear c5
        simp only [Option.some.injEq, Prod.mk.injEq] at H
        obtain ⟨rfl, rfl, rfl⟩ := H
        go_enter Tryd.func22, Tryd.ntmps22
        go_wp2_with (first | ((with_reducible refine gate_callee (f := 19) rfl ?_); refine goesL_ (some 11) rfl rfl Tryd.func19 (by kernel_rfl) rfl #[.slice A0 l0.length c0] rfl (by (try simp only [List.map_toArray, List.map_cons, List.map_nil]); first | done | rfl | (simp only [List.length_drop, List.length_take]; rfl)) ?_; (with_reducible refine (vlq_Get.calls k _ _ l0 t247 t248 t249 _ ?side1 ?side2 A2.out).mono ?_); (case side1 => repeat (first | exact HR0.out | (with_reducible refine Kd.C_alloc ?_ _) | (with_reducible refine Kd.C_drewN ?_ _) | (with_reducible refine Kd.C_drew ?_))); (case side2 => exact HC0.out); rintro e w' ⟨rfl, ⟨nd, rfl⟩⟩; refine ⟨_, rfl, ?_⟩))
        go_ret3
        exact ⟨by first | rfl | (simp; done) | (simp [*]; done), by repeat (first | exact Drawn0.refl _ | apply Drawn0.step)⟩
      · rw [if_neg c5] at H
        have c5b0 : decide ((wrap64 ((l0.length : Int) - t248)) < (wrap64 (t247))) = false := decide_eq_false c5
        clear c5
        by_cases c6 : 0 ≤ t248
        · rw [if_pos c6] at H
          have c6b0 := eq_true c6
          have c6b1 : decide (0 ≤ t248) = true := decide_eq_true c6
          clear c6
          by_cases c7 : t248 ≤ (wrap64 (t248 + (wrap64 (t247))))
          · rw [if_pos c7] at H
            have c7b0 := eq_true c7
            have c7b1 : decide (t248 ≤ (wrap64 (t248 + (wrap64 (t247))))) = true := decide_eq_true c7
            by_cases c8 : (wrap64 (t248 + (wrap64 (t247)))) ≤ (l0.length : Int)
            · rw [if_pos c8] at H
              have c8b0 := eq_true c8
              have c8b1 : decide ((wrap64 (t248 + (wrap64 (t247)))) ≤ (l0.length : Int)) = true := decide_eq_true c8
              simp only [Option.some.injEq, Prod.mk.injEq] at H
              obtain ⟨rfl, rfl, rfl⟩ := H
              go_enter Tryd.func22, Tryd.ntmps22
              go_wp2_with (first | ((with_reducible refine gate_callee (f := 19) rfl ?_); refine goesL_ (some 11) rfl rfl Tryd.func19 (by kernel_rfl) rfl #[.slice A0 l0.length c0] rfl (by (try simp only [List.map_toArray, List.map_cons, List.map_nil]); first | done | rfl | (simp only [List.length_drop, List.length_take]; rfl)) ?_; (with_reducible refine (vlq_Get.calls k _ _ l0 t247 t248 t249 _ ?side1 ?side2 A2.out).mono ?_); (case side1 => repeat (first | exact HR0.out | (with_reducible refine Kd.C_alloc ?_ _) | (with_reducible refine Kd.C_drewN ?_ _) | (with_reducible refine Kd.C_drew ?_))); (case side2 => exact HC0.out); rintro e w' ⟨rfl, ⟨nd, rfl⟩⟩; refine ⟨_, rfl, ?_⟩; obtain ⟨i09, hi09, _, hsz9, _⟩ := info_parts info5; obtain ⟨A9, hcut9, hA9, hC9⟩ := print_mid_of (P := Tryd.prog) (Value.int .u8) 0 26 5 .i64 .i64 Tryd.underlying26 hi09 hsz9 A0 c0 l0 t248 (wrap64 (t248 + (wrap64 (t247)))) (of_decide_eq_true (by first | (with_reducible assumption) | assumption)) (by first | omega | exact of_decide_eq_true (by first | (with_reducible assumption) | assumption)) (of_decide_eq_true (by first | (with_reducible assumption) | assumption)) HC0.out; have HR250 := Aside0.mk (Kd.C_of_reads (h1 := fun _ => rfl) (hA9 _ (Kd.reads_of_C HR0.out))); have HC250 := Aside0.mk hC9; clear hA9 hC9 hi09 hsz9; have hcv10 := Kd.C_string (P := Tryd.prog) (A := A9) (c := (c0 - t248.toNat)) Tryd.underlying26 Tryd.underlying5 Tryd.underlying9 HR250.out; have hcv11 := fun m_ : Nat => Kd.C_string (P := Tryd.prog) (A := A9) (c := (c0 - t248.toNat)) Tryd.underlying26 Tryd.underlying5 Tryd.underlying9 (Kd.C_drewN HR250.out m_); have hlc_ : (List.drop (t248).toNat (List.take (wrap64 (t248 + (wrap64 (t247)))).toNat l0)).length = (wrap64 (t248 + (wrap64 (t247)))).toNat - (t248).toNat := (by rw [List.length_drop, List.length_take]; omega); rw [hlc_] at hcv10; rw [hlc_] at hcv11; clear hlc_))
              go_ret3
              exact ⟨by first | rfl | (simp; done) | (simp [*]; done), by repeat (first | exact Drawn0.refl _ | apply Drawn0.step)⟩
            · rw [if_neg c8] at H
              exact absurd H (by simp)
          · rw [if_neg c7] at H
            exact absurd H (by simp)
        · rw [if_neg c6] at H
          exact absurd H (by simp)
  · rw [if_neg c3] at H
    have c3b0 : (t249 == 0) = false := beq_eq_false_iff_ne.mpr c3
    have c3b1 : (t249 != 0) = true := bne_iff_ne.mpr c3
    simp only [Option.some.injEq, Prod.mk.injEq] at H
    obtain ⟨rfl, rfl, rfl⟩ := H
    go_enter Tryd.func22, Tryd.ntmps22
    go_wp2_with (first | ((with_reducible refine gate_callee (f := 19) rfl ?_); refine goesL_ (some 11) rfl rfl Tryd.func19 (by kernel_rfl) rfl #[.slice A0 l0.length c0] rfl (by (try simp only [List.map_toArray, List.map_cons, List.map_nil]); first | done | rfl | (simp only [List.length_drop, List.length_take]; rfl)) ?_; (with_reducible refine (vlq_Get.calls k _ _ l0 t247 t248 t249 _ ?side1 ?side2 A2.out).mono ?_); (case side1 => repeat (first | exact HR0.out | (with_reducible refine Kd.C_alloc ?_ _) | (with_reducible refine Kd.C_drewN ?_ _) | (with_reducible refine Kd.C_drew ?_))); (case side2 => exact HC0.out); rintro e w' ⟨rfl, ⟨nd, rfl⟩⟩; refine ⟨_, rfl, ?_⟩))
    go_ret3
    exact ⟨by first | rfl | (simp; done) | (simp [*]; done), by repeat (first | exact Drawn0.refl _ | apply Drawn0.step)⟩

end Go.Proofs.YtpbhjemieikgpaaDoor.X
