-- written by xprint.py, a program of this claim's work (wip/xprint), which runs the kit's printer with hooks
import Derived.Test.YtkmjempbechagaaDoorX0
import Derived.Test.YtkmjempbechagaaDoorX2
import Derived.Test.YtkmjempbechagaaDoorX3
import Derived.Test.YtkmjempbechagaaDoorX4
namespace Go.Proofs.YtkmjempbechagaaDoor.X
open Go.RowKit Go.Proofs.YtkmjempbechagaaDoorW.PrintWords Go.Proofs.YtkmjempbechagaaDoorW.PrintLast Go.Proofs.YtkmjempbechagaaDoorW.PrintMore
attribute [local go_sem] max2_int min2_int max_two min_two max_three min_three max_four min_four   -- for this text's walks alone
set_option linter.unusedVariables false
set_option linter.unusedSimpArgs false

/-! ### rhynelaw17_NameOrders: function 4 -/
mutual
def rhynelaw17_NameOrders.j0 : Nat → ByteArray → ByteArray → Bool → Option (Bool)
  | 0, _, _, _ => none
  | k + 1, x0, x1, x14 => if x14 = true then ((rhynelaw17_named.f k).bind fun t224 => (some t224)) else ((name_Less.f k x0 x1).bind fun t225 => ((name_Less.f k x1 x0).bind fun t226 => ((rhynelaw17_named.f k).bind fun t227 => (if t227 = true then ((rhyneref17_DocLess.f k x0 x1).bind fun t228 => (if (t225 != t228) = true then (rhynelaw17_NameOrders.j1 k x0 x1 t225 t226 true) else ((rhyneref17_DocLess.f k x1 x0).bind fun t229 => (if (t226 != t229) = true then (rhynelaw17_NameOrders.j1 k x0 x1 t225 t226 true) else ((name_Under.f k x0 x1).bind fun t230 => ((rhyneref17_DocUnder.f k x0 x1).bind fun t231 => (rhynelaw17_NameOrders.j1 k x0 x1 t225 t226 (t230 != t231)))))))) else (rhynelaw17_NameOrders.j1 k x0 x1 t225 t226 true)))))
def rhynelaw17_NameOrders.j1 : Nat → ByteArray → ByteArray → Bool → Bool → Bool → Option (Bool)
  | 0, _, _, _, _, _ => none
  | k + 1, x0, x1, x5, x6, x46 => if x46 = true then (some false) else ((rhyneref17_Right.f k x0).bind fun t232 => (if t232 = true then ((rhyneref17_Right.f k x1).bind fun t233 => (rhynelaw17_NameOrders.j2 k x0 x1 x5 x6 (!t233))) else (rhynelaw17_NameOrders.j2 k x0 x1 x5 x6 true)))
def rhynelaw17_NameOrders.j2 : Nat → ByteArray → ByteArray → Bool → Bool → Bool → Option (Bool)
  | 0, _, _, _, _, _ => none
  | k + 1, x0, x1, x5, x6, x54 => if x54 = true then (if x5 = true then (some false) else (some (!x6))) else (if x5 = true then (if ((x0.toList == x1.toList) == false) = true then (if x6 = true then (some false) else ((name_Under.f k x0 x1).bind fun t234 => (if t234 = true then (if x0.toList = x1.toList then ((name_Under.f k x0 x0).bind fun t235 => (some t235)) else (some false)) else ((name_Under.f k x0 x0).bind fun t236 => (some t236))))) else (some false)) else (if ((x0.toList == x1.toList) == (!x6)) = true then ((name_Under.f k x0 x1).bind fun t237 => (if t237 = true then (if x0.toList = x1.toList then ((name_Under.f k x0 x0).bind fun t238 => (some t238)) else (if x6 = true then ((name_Under.f k x0 x0).bind fun t239 => (some t239)) else (some false))) else ((name_Under.f k x0 x0).bind fun t240 => (some t240)))) else (some false)))
end
def rhynelaw17_NameOrders.f (k : Nat) (a0 : ByteArray) (a1 : ByteArray) : Option (Bool) := if (a0.size : Int) > 3000 then (rhynelaw17_NameOrders.j0 k a0 a1 true) else (rhynelaw17_NameOrders.j0 k a0 a1 (decide ((a1.size : Int) > 3000)))
theorem rhynelaw17_NameOrders.mono_l : ∀ k, (∀ y0 y1 y2, LeO (rhynelaw17_NameOrders.j0 k y0 y1 y2) (rhynelaw17_NameOrders.j0 (k + 1) y0 y1 y2)) ∧ (∀ y0 y1 y2 y3 y4, LeO (rhynelaw17_NameOrders.j1 k y0 y1 y2 y3 y4) (rhynelaw17_NameOrders.j1 (k + 1) y0 y1 y2 y3 y4)) ∧ (∀ y0 y1 y2 y3 y4, LeO (rhynelaw17_NameOrders.j2 k y0 y1 y2 y3 y4) (rhynelaw17_NameOrders.j2 (k + 1) y0 y1 y2 y3 y4))
  | 0 => ⟨fun _ _ _ r h => by simp [rhynelaw17_NameOrders.j0] at h, fun _ _ _ _ _ r h => by simp [rhynelaw17_NameOrders.j1] at h, fun _ _ _ _ _ r h => by simp [rhynelaw17_NameOrders.j2] at h⟩
  | k + 1 => by
    obtain ⟨ih0, ih1, ih2⟩ := rhynelaw17_NameOrders.mono_l k
    refine ⟨?_, ?_, ?_⟩
    · intro y0 y1 y2
      unfold rhynelaw17_NameOrders.j0
      repeat' first
      | (with_reducible exact ih0 _ _ _)
      | (with_reducible exact ih1 _ _ _ _ _)
      | (with_reducible exact ih2 _ _ _ _ _)
      | (with_reducible exact name_Less.mono _ _ _)
      | (with_reducible exact name_Under.mono _ _ _)
      | (with_reducible exact rhynelaw17_named.mono _)
      | (with_reducible exact rhyneref17_DocLess.mono _ _ _)
      | (with_reducible exact rhyneref17_DocUnder.mono _ _ _)
      | (with_reducible exact rhyneref17_Right.mono _ _)
      | (with_reducible exact LeO.refl _)
      | (with_reducible exact LeO.none _)
      | (with_reducible refine LeO.ite ?_ ?_)
      | (with_reducible refine LeO.bind ?_ (fun _ => ?_))
      | exact ih0 _ _ _
      | exact ih1 _ _ _ _ _
      | exact ih2 _ _ _ _ _
      | exact name_Less.mono _ _ _
      | exact name_Under.mono _ _ _
      | exact rhynelaw17_named.mono _
      | exact rhyneref17_DocLess.mono _ _ _
      | exact rhyneref17_DocUnder.mono _ _ _
      | exact rhyneref17_Right.mono _ _
      | exact LeO.none _
      | refine LeO.ite ?_ ?_
      | refine LeO.bind ?_ (fun _ => ?_)
    · intro y0 y1 y2 y3 y4
      unfold rhynelaw17_NameOrders.j1
      repeat' first
      | (with_reducible exact ih0 _ _ _)
      | (with_reducible exact ih1 _ _ _ _ _)
      | (with_reducible exact ih2 _ _ _ _ _)
      | (with_reducible exact name_Less.mono _ _ _)
      | (with_reducible exact name_Under.mono _ _ _)
      | (with_reducible exact rhynelaw17_named.mono _)
      | (with_reducible exact rhyneref17_DocLess.mono _ _ _)
      | (with_reducible exact rhyneref17_DocUnder.mono _ _ _)
      | (with_reducible exact rhyneref17_Right.mono _ _)
      | (with_reducible exact LeO.refl _)
      | (with_reducible exact LeO.none _)
      | (with_reducible refine LeO.ite ?_ ?_)
      | (with_reducible refine LeO.bind ?_ (fun _ => ?_))
      | exact ih0 _ _ _
      | exact ih1 _ _ _ _ _
      | exact ih2 _ _ _ _ _
      | exact name_Less.mono _ _ _
      | exact name_Under.mono _ _ _
      | exact rhynelaw17_named.mono _
      | exact rhyneref17_DocLess.mono _ _ _
      | exact rhyneref17_DocUnder.mono _ _ _
      | exact rhyneref17_Right.mono _ _
      | exact LeO.none _
      | refine LeO.ite ?_ ?_
      | refine LeO.bind ?_ (fun _ => ?_)
    · intro y0 y1 y2 y3 y4
      unfold rhynelaw17_NameOrders.j2
      repeat' first
      | (with_reducible exact ih0 _ _ _)
      | (with_reducible exact ih1 _ _ _ _ _)
      | (with_reducible exact ih2 _ _ _ _ _)
      | (with_reducible exact name_Less.mono _ _ _)
      | (with_reducible exact name_Under.mono _ _ _)
      | (with_reducible exact rhynelaw17_named.mono _)
      | (with_reducible exact rhyneref17_DocLess.mono _ _ _)
      | (with_reducible exact rhyneref17_DocUnder.mono _ _ _)
      | (with_reducible exact rhyneref17_Right.mono _ _)
      | (with_reducible exact LeO.refl _)
      | (with_reducible exact LeO.none _)
      | (with_reducible refine LeO.ite ?_ ?_)
      | (with_reducible refine LeO.bind ?_ (fun _ => ?_))
      | exact ih0 _ _ _
      | exact ih1 _ _ _ _ _
      | exact ih2 _ _ _ _ _
      | exact name_Less.mono _ _ _
      | exact name_Under.mono _ _ _
      | exact rhynelaw17_named.mono _
      | exact rhyneref17_DocLess.mono _ _ _
      | exact rhyneref17_DocUnder.mono _ _ _
      | exact rhyneref17_Right.mono _ _
      | exact LeO.none _
      | refine LeO.ite ?_ ?_
      | refine LeO.bind ?_ (fun _ => ?_)
theorem rhynelaw17_NameOrders.mono : ∀ a0 a1 k, LeO (rhynelaw17_NameOrders.f k a0 a1) (rhynelaw17_NameOrders.f (k + 1) a0 a1) := by
  intro a0 a1 k
  obtain ⟨ih0, ih1, ih2⟩ := rhynelaw17_NameOrders.mono_l k
  unfold rhynelaw17_NameOrders.f
  repeat' first
      | (with_reducible exact ih0 _ _ _)
      | (with_reducible exact ih1 _ _ _ _ _)
      | (with_reducible exact ih2 _ _ _ _ _)
      | (with_reducible exact name_Less.mono _ _ _)
      | (with_reducible exact name_Under.mono _ _ _)
      | (with_reducible exact rhynelaw17_named.mono _)
      | (with_reducible exact rhyneref17_DocLess.mono _ _ _)
      | (with_reducible exact rhyneref17_DocUnder.mono _ _ _)
      | (with_reducible exact rhyneref17_Right.mono _ _)
      | (with_reducible exact LeO.refl _)
      | (with_reducible exact LeO.none _)
      | (with_reducible refine LeO.ite ?_ ?_)
      | (with_reducible refine LeO.bind ?_ (fun _ => ?_))
      | exact ih0 _ _ _
      | exact ih1 _ _ _ _ _
      | exact ih2 _ _ _ _ _
      | exact name_Less.mono _ _ _
      | exact name_Under.mono _ _ _
      | exact rhynelaw17_named.mono _
      | exact rhyneref17_DocLess.mono _ _ _
      | exact rhyneref17_DocUnder.mono _ _ _
      | exact rhyneref17_Right.mono _ _
      | exact LeO.none _
      | refine LeO.ite ?_ ?_
      | refine LeO.bind ?_ (fun _ => ?_)
set_option maxHeartbeats 8000000 in
set_option maxRecDepth 100000 in
theorem rhynelaw17_NameOrders.calls (k : Nat) (a0 : ByteArray) (a1 : ByteArray) (r : Bool) (w : World) (hG : GlobT w) (h : rhynelaw17_NameOrders.f k a0 a1 = some r) :
    Calls Tryd.prog 4 #[.string a0, .string a1] w fun e w' => e = .returned (.bool r) ∧ Below w.heap.size w w' := by
  have HB := Aside0.mk (Below.refl w.heap.size w)
  have HG := Aside0.mk hG
  clear hG
  have H : (if (a0.size : Int) > 3000 then (rhynelaw17_NameOrders.j0 k a0 a1 true) else (rhynelaw17_NameOrders.j0 k a0 a1 (decide ((a1.size : Int) > 3000)))) = some r := h
  clear h
  have HC3 := Aside0.mk H
  clear H
  go_enter Tryd.func4, Tryd.ntmps4
  go_upto_region 1 with (fail)
  go_cut [14] (fun v14 wc => ∃ (kq : Nat) (x14_2 : Bool), v14 = .bool x14_2 ∧ Aside0 (rhynelaw17_NameOrders.j0 kq a0 a1 x14_2 = some r) ∧ Aside0 (kq ≤ k) ∧ Aside0 (Below w.heap.size w wc))
  case first =>
    have H := HC3.out
    clear HC3
    by_cases c4 : (a0.size : Int) > 3000
    · rw [if_pos c4] at H
      have c4b0 : decide (3000 < (a0.size : Int)) = true := decide_eq_true c4
      have c4b1 : decide (3000 < a0.size) = true := decide_eq_true (by omega)
      clear c4
      (first | rw [c4b0] | (simp only [i64_w, i32_w]; rw [c4b0]) | skip)
      have H' := Aside0.mk H
      clear H
      go_wp2
      go_meet
      case rel => exact ⟨_, (true), (by first | rfl | (simp; done) | (simp [*]; done)), H', ⟨by first | omega | exact Nat.le_refl _⟩, ⟨by repeat (first | (with_reducible first | exact HB.out | apply below_alloc | apply pw_below_drewN | apply below_drew1) | exact HB.out)⟩⟩
    · rw [if_neg c4] at H
      have c4b0 : decide (3000 < (a0.size : Int)) = false := decide_eq_false c4
      have c4b1 : decide (3000 < a0.size) = false := decide_eq_false (by omega)
      clear c4
      (first | rw [c4b0] | (simp only [i64_w, i32_w]; rw [c4b0]) | skip)
      have H' := Aside0.mk H
      clear H
      go_wp2
      go_meet
      case rel => exact ⟨_, (decide ((a1.size : Int) > 3000)), (by first | rfl | (simp; done) | (simp [*]; done)), H', ⟨by first | omega | exact Nat.le_refl _⟩, ⟨by repeat (first | (with_reducible first | exact HB.out | apply below_alloc | apply pw_below_drewN | apply below_drew1) | exact HB.out)⟩⟩
  case rest =>
    clear HC3
    try clear p2
    try clear c4
    try clear c4b0
    try clear c4b1
    obtain ⟨kq, x14_2, rfl, HA, HJ2, HB⟩ := hcut
    cases kq with
    | zero => exact absurd HA.out (by simp [rhynelaw17_NameOrders.j0])
    | succ kj2 =>
      have H := HA.out
      clear HA
      simp only [rhynelaw17_NameOrders.j0] at H
      by_cases c5 : x14_2 = true
      · subst c5
        have H1 : ((rhynelaw17_named.f kj2).bind fun t224 => (some t224)) = some r := by rw [if_pos rfl] at H; exact H
        clear H
        have H := H1
        clear H1
        replace H := Option.bind_eq_some_iff.mp H
        obtain ⟨t224, A60, H⟩ := H
        replace H : (some t224) = some r := H
        have A6 := Aside0.mk A60
        clear A60
        obtain rfl := Option.some.inj H
        go_wp2_with (first | ((with_reducible refine gate_callee (f := 10) rfl ?_); refine goesL_ (some 15) rfl rfl Tryd.func10 (by kernel_rfl) rfl #[] rfl (by (try simp only [List.map_toArray, List.map_cons, List.map_nil]); first | done | rfl | (simp only [List.length_drop, List.length_take]; rfl)) ?_; (with_reducible refine (rhynelaw17_named.calls kj2  t224 _ ?side1 A6.out).mono ?_); (case side1 => exact glob_below HG.out (by repeat (first | (with_reducible first | exact HB.out | apply below_alloc | apply pw_below_drewN | apply below_drew1) | exact HB.out))); rintro e w7 ⟨rfl, hb⟩; refine ⟨_, rfl, ?_⟩; have n0_ := Aside0.mk (below_step (by repeat (first | (with_reducible first | exact HB.out | apply below_alloc | apply pw_below_drewN | apply below_drew1) | exact HB.out)) hb); clear HB; have HB := n0_; clear n0_; (try clear hb); (try clear hb2); (try clear hk); (try clear hi)))
        go_ret
        exact ⟨by first | rfl | (simp [errW_none, errW_some] <;> rfl) | (simp [*, errW_none, errW_some] <;> rfl), by repeat (first | (with_reducible first | exact HB.out | apply below_alloc | apply pw_below_drewN | apply below_drew1) | exact HB.out)⟩
      · replace c5 := Bool.eq_false_iff.mpr c5
        subst c5
        have H1 : ((name_Less.f kj2 a0 a1).bind fun t225 => ((name_Less.f kj2 a1 a0).bind fun t226 => ((rhynelaw17_named.f kj2).bind fun t227 => (if t227 = true then ((rhyneref17_DocLess.f kj2 a0 a1).bind fun t228 => (if (t225 != t228) = true then (rhynelaw17_NameOrders.j1 kj2 a0 a1 t225 t226 true) else ((rhyneref17_DocLess.f kj2 a1 a0).bind fun t229 => (if (t226 != t229) = true then (rhynelaw17_NameOrders.j1 kj2 a0 a1 t225 t226 true) else ((name_Under.f kj2 a0 a1).bind fun t230 => ((rhyneref17_DocUnder.f kj2 a0 a1).bind fun t231 => (rhynelaw17_NameOrders.j1 kj2 a0 a1 t225 t226 (t230 != t231)))))))) else (rhynelaw17_NameOrders.j1 kj2 a0 a1 t225 t226 true))))) = some r := by rw [if_neg (show ¬ (false = true) by decide)] at H; exact H
        clear H
        have H := H1
        clear H1
        replace H := Option.bind_eq_some_iff.mp H
        obtain ⟨t225, A80, H⟩ := H
        replace H : ((name_Less.f kj2 a1 a0).bind fun t226 => ((rhynelaw17_named.f kj2).bind fun t227 => (if t227 = true then ((rhyneref17_DocLess.f kj2 a0 a1).bind fun t228 => (if (t225 != t228) = true then (rhynelaw17_NameOrders.j1 kj2 a0 a1 t225 t226 true) else ((rhyneref17_DocLess.f kj2 a1 a0).bind fun t229 => (if (t226 != t229) = true then (rhynelaw17_NameOrders.j1 kj2 a0 a1 t225 t226 true) else ((name_Under.f kj2 a0 a1).bind fun t230 => ((rhyneref17_DocUnder.f kj2 a0 a1).bind fun t231 => (rhynelaw17_NameOrders.j1 kj2 a0 a1 t225 t226 (t230 != t231)))))))) else (rhynelaw17_NameOrders.j1 kj2 a0 a1 t225 t226 true)))) = some r := H
        have A8 := Aside0.mk A80
        clear A80
        replace H := Option.bind_eq_some_iff.mp H
        obtain ⟨t226, A90, H⟩ := H
        replace H : ((rhynelaw17_named.f kj2).bind fun t227 => (if t227 = true then ((rhyneref17_DocLess.f kj2 a0 a1).bind fun t228 => (if (t225 != t228) = true then (rhynelaw17_NameOrders.j1 kj2 a0 a1 t225 t226 true) else ((rhyneref17_DocLess.f kj2 a1 a0).bind fun t229 => (if (t226 != t229) = true then (rhynelaw17_NameOrders.j1 kj2 a0 a1 t225 t226 true) else ((name_Under.f kj2 a0 a1).bind fun t230 => ((rhyneref17_DocUnder.f kj2 a0 a1).bind fun t231 => (rhynelaw17_NameOrders.j1 kj2 a0 a1 t225 t226 (t230 != t231)))))))) else (rhynelaw17_NameOrders.j1 kj2 a0 a1 t225 t226 true))) = some r := H
        have A9 := Aside0.mk A90
        clear A90
        have HC10 := Aside0.mk H
        clear H
        go_upto_region 4 with (first | ((with_reducible refine gate_callee (f := 18) rfl ?_); refine goesL_ (some 18) rfl rfl Tryd.func18 (by kernel_rfl) rfl #[.string a0, .string a1] rfl (by (try simp only [List.map_toArray, List.map_cons, List.map_nil]); first | done | rfl | (simp only [List.length_drop, List.length_take]; rfl)) ?_; (with_reducible refine (name_Less.calls kj2 a0 a1 t225 _ ?side1 A8.out).mono ?_); (case side1 => exact glob_below HG.out (by repeat (first | (with_reducible first | exact HB.out | apply below_alloc | apply pw_below_drewN | apply below_drew1) | exact HB.out))); rintro e w11 ⟨rfl, hb⟩; refine ⟨_, rfl, ?_⟩; have n0_ := Aside0.mk (below_step (by repeat (first | (with_reducible first | exact HB.out | apply below_alloc | apply pw_below_drewN | apply below_drew1) | exact HB.out)) hb); clear HB; have HB := n0_; clear n0_; (try clear hb); (try clear hb2); (try clear hk); (try clear hi)) | ((with_reducible refine gate_callee (f := 18) rfl ?_); refine goesL_ (some 21) rfl rfl Tryd.func18 (by kernel_rfl) rfl #[.string a1, .string a0] rfl (by (try simp only [List.map_toArray, List.map_cons, List.map_nil]); first | done | rfl | (simp only [List.length_drop, List.length_take]; rfl)) ?_; (with_reducible refine (name_Less.calls kj2 a1 a0 t226 _ ?side1 A9.out).mono ?_); (case side1 => exact glob_below HG.out (by repeat (first | (with_reducible first | exact HB.out | apply below_alloc | apply pw_below_drewN | apply below_drew1) | exact HB.out))); rintro e w12 ⟨rfl, hb⟩; refine ⟨_, rfl, ?_⟩; have n0_ := Aside0.mk (below_step (by repeat (first | (with_reducible first | exact HB.out | apply below_alloc | apply pw_below_drewN | apply below_drew1) | exact HB.out)) hb); clear HB; have HB := n0_; clear n0_; (try clear hb); (try clear hb2); (try clear hk); (try clear hi)))
        (try simp only [Act.put, List.setIfInBounds_toArray, List.set_cons_zero, List.set_cons_succ])
        go_cut [46] (fun v46 wc => ∃ (kq : Nat) (x46_9 : Bool), v46 = .bool x46_9 ∧ Aside0 (rhynelaw17_NameOrders.j1 kq a0 a1 t225 t226 x46_9 = some r) ∧ Aside0 (kq ≤ kj2) ∧ Aside0 (Below w.heap.size w wc))
        case first =>
          have H := HC10.out
          clear HC10
          replace H := Option.bind_eq_some_iff.mp H
          obtain ⟨t227, A130, H⟩ := H
          replace H : (if t227 = true then ((rhyneref17_DocLess.f kj2 a0 a1).bind fun t228 => (if (t225 != t228) = true then (rhynelaw17_NameOrders.j1 kj2 a0 a1 t225 t226 true) else ((rhyneref17_DocLess.f kj2 a1 a0).bind fun t229 => (if (t226 != t229) = true then (rhynelaw17_NameOrders.j1 kj2 a0 a1 t225 t226 true) else ((name_Under.f kj2 a0 a1).bind fun t230 => ((rhyneref17_DocUnder.f kj2 a0 a1).bind fun t231 => (rhynelaw17_NameOrders.j1 kj2 a0 a1 t225 t226 (t230 != t231)))))))) else (rhynelaw17_NameOrders.j1 kj2 a0 a1 t225 t226 true)) = some r := H
          have A13 := Aside0.mk A130
          clear A130
          by_cases c14 : t227 = true
          · subst c14
            have H1 : ((rhyneref17_DocLess.f kj2 a0 a1).bind fun t228 => (if (t225 != t228) = true then (rhynelaw17_NameOrders.j1 kj2 a0 a1 t225 t226 true) else ((rhyneref17_DocLess.f kj2 a1 a0).bind fun t229 => (if (t226 != t229) = true then (rhynelaw17_NameOrders.j1 kj2 a0 a1 t225 t226 true) else ((name_Under.f kj2 a0 a1).bind fun t230 => ((rhyneref17_DocUnder.f kj2 a0 a1).bind fun t231 => (rhynelaw17_NameOrders.j1 kj2 a0 a1 t225 t226 (t230 != t231)))))))) = some r := by rw [if_pos rfl] at H; exact H
            clear H
            have H := H1
            clear H1
            replace H := Option.bind_eq_some_iff.mp H
            obtain ⟨t228, A150, H⟩ := H
            replace H : (if (t225 != t228) = true then (rhynelaw17_NameOrders.j1 kj2 a0 a1 t225 t226 true) else ((rhyneref17_DocLess.f kj2 a1 a0).bind fun t229 => (if (t226 != t229) = true then (rhynelaw17_NameOrders.j1 kj2 a0 a1 t225 t226 true) else ((name_Under.f kj2 a0 a1).bind fun t230 => ((rhyneref17_DocUnder.f kj2 a0 a1).bind fun t231 => (rhynelaw17_NameOrders.j1 kj2 a0 a1 t225 t226 (t230 != t231))))))) = some r := H
            have A15 := Aside0.mk A150
            clear A150
            by_cases c16 : (t225 != t228) = true
            · rw [if_pos c16] at H
              have c16b0 : (t225 != t228) = true := c16
              (try (have c16b1 : decide (t225 = t228) = false := by simpa using c16))
              (try (have c16b2 : (t225 == t228) = false := by simpa using c16))
              (try (have c16b3 : ¬ (t225 = t228) := by simpa using c16))
              clear c16
              (first | rw [c16b0] | (simp only [i64_w, i32_w]; rw [c16b0]) | skip)
              have H' := Aside0.mk H
              clear H
              go_wp2_with (first | ((with_reducible refine gate_callee (f := 10) rfl ?_); refine goesL_ (some 22) rfl rfl Tryd.func10 (by kernel_rfl) rfl #[] rfl (by (try simp only [List.map_toArray, List.map_cons, List.map_nil]); first | done | rfl | (simp only [List.length_drop, List.length_take]; rfl)) ?_; (with_reducible refine (rhynelaw17_named.calls kj2  true _ ?side1 A13.out).mono ?_); (case side1 => exact glob_below HG.out (by repeat (first | (with_reducible first | exact HB.out | apply below_alloc | apply pw_below_drewN | apply below_drew1) | exact HB.out))); rintro e w17 ⟨rfl, hb⟩; refine ⟨_, rfl, ?_⟩; have n0_ := Aside0.mk (below_step (by repeat (first | (with_reducible first | exact HB.out | apply below_alloc | apply pw_below_drewN | apply below_drew1) | exact HB.out)) hb); clear HB; have HB := n0_; clear n0_; (try clear hb); (try clear hb2); (try clear hk); (try clear hi)) | (go_at_call 19; (with_reducible refine (rhyneref17_DocLess.calls kj2 a0 a1 t228 _ A15.out).mono ?_); rintro e w18 ⟨rfl, hb⟩; have n0_ := Aside0.mk (below_step (by repeat (first | (with_reducible first | exact HB.out | apply below_alloc | apply pw_below_drewN | apply below_drew1) | exact HB.out)) hb); clear HB; have HB := n0_; clear n0_; (try clear hb); (try clear hb2); (try clear hk); (try clear hi)))
              go_meet
              case rel => exact ⟨_, (true), (by first | rfl | (simp; done) | (simp [*]; done)), H', ⟨by have := HJ2.out; first | omega | exact Nat.le_refl _⟩, ⟨by repeat (first | (with_reducible first | exact HB.out | apply below_alloc | apply pw_below_drewN | apply below_drew1) | exact HB.out)⟩⟩
            · rw [if_neg c16] at H
              have c16b0 : (t225 != t228) = false := by simpa using c16
              (try (have c16b1 : decide (t225 = t228) = true := by simpa using c16))
              (try (have c16b2 : (t225 == t228) = true := by simpa using c16))
              clear c16
              (first | rw [c16b0] | (simp only [i64_w, i32_w]; rw [c16b0]) | skip)
              replace H := Option.bind_eq_some_iff.mp H
              obtain ⟨t229, A190, H⟩ := H
              replace H : (if (t226 != t229) = true then (rhynelaw17_NameOrders.j1 kj2 a0 a1 t225 t226 true) else ((name_Under.f kj2 a0 a1).bind fun t230 => ((rhyneref17_DocUnder.f kj2 a0 a1).bind fun t231 => (rhynelaw17_NameOrders.j1 kj2 a0 a1 t225 t226 (t230 != t231))))) = some r := H
              have A19 := Aside0.mk A190
              clear A190
              by_cases c20 : (t226 != t229) = true
              · rw [if_pos c20] at H
                have c20b0 : (t226 != t229) = true := c20
                (try (have c20b1 : decide (t226 = t229) = false := by simpa using c20))
                (try (have c20b2 : (t226 == t229) = false := by simpa using c20))
                (try (have c20b3 : ¬ (t226 = t229) := by simpa using c20))
                clear c20
                have H' := Aside0.mk H
                clear H
                go_wp2_with (first | ((with_reducible refine gate_callee (f := 10) rfl ?_); refine goesL_ (some 22) rfl rfl Tryd.func10 (by kernel_rfl) rfl #[] rfl (by (try simp only [List.map_toArray, List.map_cons, List.map_nil]); first | done | rfl | (simp only [List.length_drop, List.length_take]; rfl)) ?_; (with_reducible refine (rhynelaw17_named.calls kj2  true _ ?side1 A13.out).mono ?_); (case side1 => exact glob_below HG.out (by repeat (first | (with_reducible first | exact HB.out | apply below_alloc | apply pw_below_drewN | apply below_drew1) | exact HB.out))); rintro e w21 ⟨rfl, hb⟩; refine ⟨_, rfl, ?_⟩; have n0_ := Aside0.mk (below_step (by repeat (first | (with_reducible first | exact HB.out | apply below_alloc | apply pw_below_drewN | apply below_drew1) | exact HB.out)) hb); clear HB; have HB := n0_; clear n0_; (try clear hb); (try clear hb2); (try clear hk); (try clear hi)) | (go_at_call 19; (with_reducible refine (rhyneref17_DocLess.calls kj2 a0 a1 t228 _ A15.out).mono ?_); rintro e w22 ⟨rfl, hb⟩; have n0_ := Aside0.mk (below_step (by repeat (first | (with_reducible first | exact HB.out | apply below_alloc | apply pw_below_drewN | apply below_drew1) | exact HB.out)) hb); clear HB; have HB := n0_; clear n0_; (try clear hb); (try clear hb2); (try clear hk); (try clear hi)) | (go_at_call 19; (with_reducible refine (rhyneref17_DocLess.calls kj2 a1 a0 t229 _ A19.out).mono ?_); rintro e w23 ⟨rfl, hb⟩; have n0_ := Aside0.mk (below_step (by repeat (first | (with_reducible first | exact HB.out | apply below_alloc | apply pw_below_drewN | apply below_drew1) | exact HB.out)) hb); clear HB; have HB := n0_; clear n0_; (try clear hb); (try clear hb2); (try clear hk); (try clear hi)))
                go_meet
                case rel => exact ⟨_, (true), (by first | rfl | (simp; done) | (simp [*]; done)), H', ⟨by have := HJ2.out; first | omega | exact Nat.le_refl _⟩, ⟨by repeat (first | (with_reducible first | exact HB.out | apply below_alloc | apply pw_below_drewN | apply below_drew1) | exact HB.out)⟩⟩
              · rw [if_neg c20] at H
                have c20b0 : (t226 != t229) = false := by simpa using c20
                (try (have c20b1 : decide (t226 = t229) = true := by simpa using c20))
                (try (have c20b2 : (t226 == t229) = true := by simpa using c20))
                clear c20
                replace H := Option.bind_eq_some_iff.mp H
                obtain ⟨t230, A240, H⟩ := H
                replace H : ((rhyneref17_DocUnder.f kj2 a0 a1).bind fun t231 => (rhynelaw17_NameOrders.j1 kj2 a0 a1 t225 t226 (t230 != t231))) = some r := H
                have A24 := Aside0.mk A240
                clear A240
                replace H := Option.bind_eq_some_iff.mp H
                obtain ⟨t231, A250, H⟩ := H
                replace H : (rhynelaw17_NameOrders.j1 kj2 a0 a1 t225 t226 (t230 != t231)) = some r := H
                have A25 := Aside0.mk A250
                clear A250
                have H' := Aside0.mk H
                clear H
                go_wp2_with (first | ((with_reducible refine gate_callee (f := 10) rfl ?_); refine goesL_ (some 22) rfl rfl Tryd.func10 (by kernel_rfl) rfl #[] rfl (by (try simp only [List.map_toArray, List.map_cons, List.map_nil]); first | done | rfl | (simp only [List.length_drop, List.length_take]; rfl)) ?_; (with_reducible refine (rhynelaw17_named.calls kj2  true _ ?side1 A13.out).mono ?_); (case side1 => exact glob_below HG.out (by repeat (first | (with_reducible first | exact HB.out | apply below_alloc | apply pw_below_drewN | apply below_drew1) | exact HB.out))); rintro e w26 ⟨rfl, hb⟩; refine ⟨_, rfl, ?_⟩; have n0_ := Aside0.mk (below_step (by repeat (first | (with_reducible first | exact HB.out | apply below_alloc | apply pw_below_drewN | apply below_drew1) | exact HB.out)) hb); clear HB; have HB := n0_; clear n0_; (try clear hb); (try clear hb2); (try clear hk); (try clear hi)) | (go_at_call 19; (with_reducible refine (rhyneref17_DocLess.calls kj2 a0 a1 t228 _ A15.out).mono ?_); rintro e w27 ⟨rfl, hb⟩; have n0_ := Aside0.mk (below_step (by repeat (first | (with_reducible first | exact HB.out | apply below_alloc | apply pw_below_drewN | apply below_drew1) | exact HB.out)) hb); clear HB; have HB := n0_; clear n0_; (try clear hb); (try clear hb2); (try clear hk); (try clear hi)) | (go_at_call 19; (with_reducible refine (rhyneref17_DocLess.calls kj2 a1 a0 t229 _ A19.out).mono ?_); rintro e w28 ⟨rfl, hb⟩; have n0_ := Aside0.mk (below_step (by repeat (first | (with_reducible first | exact HB.out | apply below_alloc | apply pw_below_drewN | apply below_drew1) | exact HB.out)) hb); clear HB; have HB := n0_; clear n0_; (try clear hb); (try clear hb2); (try clear hk); (try clear hi)) | (go_at_call 20; (with_reducible refine (name_Under.calls kj2 a0 a1 t230 _ ?side1 A24.out).mono ?_); (case side1 => exact glob_below HG.out (by repeat (first | (with_reducible first | exact HB.out | apply below_alloc | apply pw_below_drewN | apply below_drew1) | exact HB.out))); rintro e w29 ⟨rfl, hb⟩; have n0_ := Aside0.mk (below_step (by repeat (first | (with_reducible first | exact HB.out | apply below_alloc | apply pw_below_drewN | apply below_drew1) | exact HB.out)) hb); clear HB; have HB := n0_; clear n0_; (try clear hb); (try clear hb2); (try clear hk); (try clear hi)) | (go_at_call 21; (with_reducible refine (rhyneref17_DocUnder.calls kj2 a0 a1 t231 _ A25.out).mono ?_); rintro e w30 ⟨rfl, hb⟩; have n0_ := Aside0.mk (below_step (by repeat (first | (with_reducible first | exact HB.out | apply below_alloc | apply pw_below_drewN | apply below_drew1) | exact HB.out)) hb); clear HB; have HB := n0_; clear n0_; (try clear hb); (try clear hb2); (try clear hk); (try clear hi)))
                go_meet
                case rel => exact ⟨_, ((t230 != t231)), (by first | rfl | (simp; done) | (simp [*]; done)), H', ⟨by have := HJ2.out; first | omega | exact Nat.le_refl _⟩, ⟨by repeat (first | (with_reducible first | exact HB.out | apply below_alloc | apply pw_below_drewN | apply below_drew1) | exact HB.out)⟩⟩
          · replace c14 := Bool.eq_false_iff.mpr c14
            subst c14
            have H1 : (rhynelaw17_NameOrders.j1 kj2 a0 a1 t225 t226 true) = some r := by rw [if_neg (show ¬ (false = true) by decide)] at H; exact H
            clear H
            have H := H1
            clear H1
            have H' := Aside0.mk H
            clear H
            go_wp2_with (first | ((with_reducible refine gate_callee (f := 10) rfl ?_); refine goesL_ (some 22) rfl rfl Tryd.func10 (by kernel_rfl) rfl #[] rfl (by (try simp only [List.map_toArray, List.map_cons, List.map_nil]); first | done | rfl | (simp only [List.length_drop, List.length_take]; rfl)) ?_; (with_reducible refine (rhynelaw17_named.calls kj2  false _ ?side1 A13.out).mono ?_); (case side1 => exact glob_below HG.out (by repeat (first | (with_reducible first | exact HB.out | apply below_alloc | apply pw_below_drewN | apply below_drew1) | exact HB.out))); rintro e w31 ⟨rfl, hb⟩; refine ⟨_, rfl, ?_⟩; have n0_ := Aside0.mk (below_step (by repeat (first | (with_reducible first | exact HB.out | apply below_alloc | apply pw_below_drewN | apply below_drew1) | exact HB.out)) hb); clear HB; have HB := n0_; clear n0_; (try clear hb); (try clear hb2); (try clear hk); (try clear hi)))
            go_meet
            case rel => exact ⟨_, (true), (by first | rfl | (simp; done) | (simp [*]; done)), H', ⟨by have := HJ2.out; first | omega | exact Nat.le_refl _⟩, ⟨by repeat (first | (with_reducible first | exact HB.out | apply below_alloc | apply pw_below_drewN | apply below_drew1) | exact HB.out)⟩⟩
        case rest =>
          clear HC10
          try clear c1
          try clear c2
          try clear p2
          try clear c4
          try clear c4b0
          try clear c4b1
          try clear c5
          try clear c10
          try clear c14
          try clear c16
          try clear c16b0
          try clear c16b1
          try clear c16b2
          try clear c18
          try clear c20
          try clear c20b0
          try clear c20b1
          try clear c20b2
          try clear p2
          obtain ⟨kq, x46_9, rfl, HA, HJ9, HB⟩ := hcut
          cases kq with
          | zero => exact absurd HA.out (by simp [rhynelaw17_NameOrders.j1])
          | succ kj9 =>
            have H := HA.out
            clear HA
            simp only [rhynelaw17_NameOrders.j1] at H
            by_cases c32 : x46_9 = true
            · subst c32
              have H1 : (some false) = some r := by rw [if_pos rfl] at H; exact H
              clear H
              have H := H1
              clear H1
              obtain rfl := Option.some.inj H
              go_wp2
              go_ret
              exact ⟨by first | rfl | (simp [errW_none, errW_some] <;> rfl) | (simp [*, errW_none, errW_some] <;> rfl), by repeat (first | (with_reducible first | exact HB.out | apply below_alloc | apply pw_below_drewN | apply below_drew1) | exact HB.out)⟩
            · replace c32 := Bool.eq_false_iff.mpr c32
              subst c32
              have H1 : ((rhyneref17_Right.f kj9 a0).bind fun t232 => (if t232 = true then ((rhyneref17_Right.f kj9 a1).bind fun t233 => (rhynelaw17_NameOrders.j2 kj9 a0 a1 t225 t226 (!t233))) else (rhynelaw17_NameOrders.j2 kj9 a0 a1 t225 t226 true))) = some r := by rw [if_neg (show ¬ (false = true) by decide)] at H; exact H
              clear H
              have H := H1
              clear H1
              have HC33 := Aside0.mk H
              clear H
              go_upto_region 6 with (fail)
              go_cut [54] (fun v54 wc => ∃ (kq : Nat) (x54_32 : Bool), v54 = .bool x54_32 ∧ Aside0 (rhynelaw17_NameOrders.j2 kq a0 a1 t225 t226 x54_32 = some r) ∧ Aside0 (kq ≤ kj9) ∧ Aside0 (Below w.heap.size w wc))
              case first =>
                have H := HC33.out
                clear HC33
                replace H := Option.bind_eq_some_iff.mp H
                obtain ⟨t232, A340, H⟩ := H
                replace H : (if t232 = true then ((rhyneref17_Right.f kj9 a1).bind fun t233 => (rhynelaw17_NameOrders.j2 kj9 a0 a1 t225 t226 (!t233))) else (rhynelaw17_NameOrders.j2 kj9 a0 a1 t225 t226 true)) = some r := H
                have A34 := Aside0.mk A340
                clear A340
                by_cases c35 : t232 = true
                · subst c35
                  have H1 : ((rhyneref17_Right.f kj9 a1).bind fun t233 => (rhynelaw17_NameOrders.j2 kj9 a0 a1 t225 t226 (!t233))) = some r := by rw [if_pos rfl] at H; exact H
                  clear H
                  have H := H1
                  clear H1
                  replace H := Option.bind_eq_some_iff.mp H
                  obtain ⟨t233, A360, H⟩ := H
                  replace H : (rhynelaw17_NameOrders.j2 kj9 a0 a1 t225 t226 (!t233)) = some r := H
                  have A36 := Aside0.mk A360
                  clear A360
                  have H' := Aside0.mk H
                  clear H
                  go_wp2_with (first | ((with_reducible refine gate_callee (f := 22) rfl ?_); refine goesL_ (some 48) rfl rfl Tryd.func22 (by kernel_rfl) rfl #[.string a0] rfl (by (try simp only [List.map_toArray, List.map_cons, List.map_nil]); first | done | rfl | (simp only [List.length_drop, List.length_take]; rfl)) ?_; (with_reducible refine (rhyneref17_Right.calls kj9 a0 true _ A34.out).mono ?_); rintro e w37 ⟨rfl, hb⟩; refine ⟨_, rfl, ?_⟩; have n0_ := Aside0.mk (below_step (by repeat (first | (with_reducible first | exact HB.out | apply below_alloc | apply pw_below_drewN | apply below_drew1) | exact HB.out)) hb); clear HB; have HB := n0_; clear n0_; (try clear hb); (try clear hb2); (try clear hk); (try clear hi)) | (go_at_call 22; (with_reducible refine (rhyneref17_Right.calls kj9 a1 t233 _ A36.out).mono ?_); rintro e w38 ⟨rfl, hb⟩; have n0_ := Aside0.mk (below_step (by repeat (first | (with_reducible first | exact HB.out | apply below_alloc | apply pw_below_drewN | apply below_drew1) | exact HB.out)) hb); clear HB; have HB := n0_; clear n0_; (try clear hb); (try clear hb2); (try clear hk); (try clear hi)))
                  go_meet
                  case rel => exact ⟨_, (!t233), (by first | rfl | (simp; done) | (simp [*]; done)), H', ⟨by have := HJ2.out; have := HJ9.out; first | omega | exact Nat.le_refl _⟩, ⟨by repeat (first | (with_reducible first | exact HB.out | apply below_alloc | apply pw_below_drewN | apply below_drew1) | exact HB.out)⟩⟩
                · replace c35 := Bool.eq_false_iff.mpr c35
                  subst c35
                  have H1 : (rhynelaw17_NameOrders.j2 kj9 a0 a1 t225 t226 true) = some r := by rw [if_neg (show ¬ (false = true) by decide)] at H; exact H
                  clear H
                  have H := H1
                  clear H1
                  have H' := Aside0.mk H
                  clear H
                  go_wp2_with (first | ((with_reducible refine gate_callee (f := 22) rfl ?_); refine goesL_ (some 48) rfl rfl Tryd.func22 (by kernel_rfl) rfl #[.string a0] rfl (by (try simp only [List.map_toArray, List.map_cons, List.map_nil]); first | done | rfl | (simp only [List.length_drop, List.length_take]; rfl)) ?_; (with_reducible refine (rhyneref17_Right.calls kj9 a0 false _ A34.out).mono ?_); rintro e w39 ⟨rfl, hb⟩; refine ⟨_, rfl, ?_⟩; have n0_ := Aside0.mk (below_step (by repeat (first | (with_reducible first | exact HB.out | apply below_alloc | apply pw_below_drewN | apply below_drew1) | exact HB.out)) hb); clear HB; have HB := n0_; clear n0_; (try clear hb); (try clear hb2); (try clear hk); (try clear hi)))
                  go_meet
                  case rel => exact ⟨_, (true), (by first | rfl | (simp; done) | (simp [*]; done)), H', ⟨by have := HJ2.out; have := HJ9.out; first | omega | exact Nat.le_refl _⟩, ⟨by repeat (first | (with_reducible first | exact HB.out | apply below_alloc | apply pw_below_drewN | apply below_drew1) | exact HB.out)⟩⟩
              case rest =>
                clear HC33
                try clear c1
                try clear c2
                try clear p2
                try clear c3
                try clear c4
                try clear c4b0
                try clear c4b1
                try clear c5
                try clear c10
                try clear c14
                try clear c16
                try clear c16b0
                try clear c16b1
                try clear c16b2
                try clear c18
                try clear c20
                try clear c20b0
                try clear c20b1
                try clear c20b2
                try clear c22
                try clear c32
                try clear c35
                try clear p2
                obtain ⟨kq, x54_32, rfl, HA, HJ32, HB⟩ := hcut
                cases kq with
                | zero => exact absurd HA.out (by simp [rhynelaw17_NameOrders.j2])
                | succ kj32 =>
                  have H := HA.out
                  clear HA
                  simp only [rhynelaw17_NameOrders.j2] at H
                  by_cases c40 : x54_32 = true
                  · subst c40
                    have H1 : (if t225 = true then (some false) else (some (!t226))) = some r := by rw [if_pos rfl] at H; exact H
                    clear H
                    have H := H1
                    clear H1
                    by_cases c41 : t225 = true
                    · subst c41
                      have H1 : (some false) = some r := by rw [if_pos rfl] at H; exact H
                      clear H
                      have H := H1
                      clear H1
                      obtain rfl := Option.some.inj H
                      go_wp2
                      go_ret
                      exact ⟨by first | rfl | (simp [errW_none, errW_some] <;> rfl) | (simp [*, errW_none, errW_some] <;> rfl), by repeat (first | (with_reducible first | exact HB.out | apply below_alloc | apply pw_below_drewN | apply below_drew1) | exact HB.out)⟩
                    · replace c41 := Bool.eq_false_iff.mpr c41
                      subst c41
                      have H1 : (some (!t226)) = some r := by rw [if_neg (show ¬ (false = true) by decide)] at H; exact H
                      clear H
                      have H := H1
                      clear H1
                      obtain rfl := Option.some.inj H
                      go_wp2
                      go_ret
                      exact ⟨by first | rfl | (simp [errW_none, errW_some] <;> rfl) | (simp [*, errW_none, errW_some] <;> rfl), by repeat (first | (with_reducible first | exact HB.out | apply below_alloc | apply pw_below_drewN | apply below_drew1) | exact HB.out)⟩
                  · replace c40 := Bool.eq_false_iff.mpr c40
                    subst c40
                    have H1 : (if t225 = true then (if ((a0.toList == a1.toList) == false) = true then (if t226 = true then (some false) else ((name_Under.f kj32 a0 a1).bind fun t234 => (if t234 = true then (if a0.toList = a1.toList then ((name_Under.f kj32 a0 a0).bind fun t235 => (some t235)) else (some false)) else ((name_Under.f kj32 a0 a0).bind fun t236 => (some t236))))) else (some false)) else (if ((a0.toList == a1.toList) == (!t226)) = true then ((name_Under.f kj32 a0 a1).bind fun t237 => (if t237 = true then (if a0.toList = a1.toList then ((name_Under.f kj32 a0 a0).bind fun t238 => (some t238)) else (if t226 = true then ((name_Under.f kj32 a0 a0).bind fun t239 => (some t239)) else (some false))) else ((name_Under.f kj32 a0 a0).bind fun t240 => (some t240)))) else (some false))) = some r := by rw [if_neg (show ¬ (false = true) by decide)] at H; exact H
                    clear H
                    have H := H1
                    clear H1
                    by_cases c42 : t225 = true
                    · subst c42
                      have H1 : (if ((a0.toList == a1.toList) == false) = true then (if t226 = true then (some false) else ((name_Under.f kj32 a0 a1).bind fun t234 => (if t234 = true then (if a0.toList = a1.toList then ((name_Under.f kj32 a0 a0).bind fun t235 => (some t235)) else (some false)) else ((name_Under.f kj32 a0 a0).bind fun t236 => (some t236))))) else (some false)) = some r := by rw [if_pos rfl] at H; exact H
                      clear H
                      have H := H1
                      clear H1
                      by_cases c43 : ((a0.toList == a1.toList) == false) = true
                      · rw [if_pos c43] at H
                        have c43b0 : ((a0.toList == a1.toList) == false) = true := c43
                        (try (have c43b1 : decide ((a0.toList == a1.toList) = false) = true := by simpa using c43))
                        (try (have c43b2 : ((a0.toList == a1.toList) == false) = true := by simpa using c43))
                        clear c43
                        by_cases c44 : t226 = true
                        · subst c44
                          have H1 : (some false) = some r := by rw [if_pos rfl] at H; exact H
                          clear H
                          have H := H1
                          clear H1
                          obtain rfl := Option.some.inj H
                          go_wp2
                          go_ret
                          exact ⟨by first | rfl | (simp [errW_none, errW_some] <;> rfl) | (simp [*, errW_none, errW_some] <;> rfl), by repeat (first | (with_reducible first | exact HB.out | apply below_alloc | apply pw_below_drewN | apply below_drew1) | exact HB.out)⟩
                        · replace c44 := Bool.eq_false_iff.mpr c44
                          subst c44
                          have H1 : ((name_Under.f kj32 a0 a1).bind fun t234 => (if t234 = true then (if a0.toList = a1.toList then ((name_Under.f kj32 a0 a0).bind fun t235 => (some t235)) else (some false)) else ((name_Under.f kj32 a0 a0).bind fun t236 => (some t236)))) = some r := by rw [if_neg (show ¬ (false = true) by decide)] at H; exact H
                          clear H
                          have H := H1
                          clear H1
                          replace H := Option.bind_eq_some_iff.mp H
                          obtain ⟨t234, A450, H⟩ := H
                          replace H : (if t234 = true then (if a0.toList = a1.toList then ((name_Under.f kj32 a0 a0).bind fun t235 => (some t235)) else (some false)) else ((name_Under.f kj32 a0 a0).bind fun t236 => (some t236))) = some r := H
                          have A45 := Aside0.mk A450
                          clear A450
                          by_cases c46 : t234 = true
                          · subst c46
                            have H1 : (if a0.toList = a1.toList then ((name_Under.f kj32 a0 a0).bind fun t235 => (some t235)) else (some false)) = some r := by rw [if_pos rfl] at H; exact H
                            clear H
                            have H := H1
                            clear H1
                            by_cases c47 : a0.toList = a1.toList
                            · rw [if_pos c47] at H
                              have c47b0 : (a0.toList == a1.toList) = true := beq_iff_eq.mpr c47
                              have c47b1 : (a0.toList != a1.toList) = false := bne_eq_false_iff_eq.mpr c47
                              exact absurd c43b0 (by simp [c47b0])
                            · rw [if_neg c47] at H
                              have c47b0 : (a0.toList == a1.toList) = false := beq_eq_false_iff_ne.mpr c47
                              have c47b1 : (a0.toList != a1.toList) = true := bne_iff_ne.mpr c47
                              obtain rfl := Option.some.inj H
                              go_wp2_with (first | (go_at_call 20; (with_reducible refine (name_Under.calls kj32 a0 a1 true _ ?side1 A45.out).mono ?_); (case side1 => exact glob_below HG.out (by repeat (first | (with_reducible first | exact HB.out | apply below_alloc | apply pw_below_drewN | apply below_drew1) | exact HB.out))); rintro e w51 ⟨rfl, hb⟩; have n0_ := Aside0.mk (below_step (by repeat (first | (with_reducible first | exact HB.out | apply below_alloc | apply pw_below_drewN | apply below_drew1) | exact HB.out)) hb); clear HB; have HB := n0_; clear n0_; (try clear hb); (try clear hb2); (try clear hk); (try clear hi)))
                              go_ret
                              exact ⟨by first | rfl | (simp [errW_none, errW_some] <;> rfl) | (simp [*, errW_none, errW_some] <;> rfl), by repeat (first | (with_reducible first | exact HB.out | apply below_alloc | apply pw_below_drewN | apply below_drew1) | exact HB.out)⟩
                          · replace c46 := Bool.eq_false_iff.mpr c46
                            subst c46
                            have H1 : ((name_Under.f kj32 a0 a0).bind fun t236 => (some t236)) = some r := by rw [if_neg (show ¬ (false = true) by decide)] at H; exact H
                            clear H
                            have H := H1
                            clear H1
                            replace H := Option.bind_eq_some_iff.mp H
                            obtain ⟨t236, A520, H⟩ := H
                            replace H : (some t236) = some r := H
                            have A52 := Aside0.mk A520
                            clear A520
                            obtain rfl := Option.some.inj H
                            go_wp2_with (first | (go_at_call 20; (with_reducible refine (name_Under.calls kj32 a0 a1 false _ ?side1 A45.out).mono ?_); (case side1 => exact glob_below HG.out (by repeat (first | (with_reducible first | exact HB.out | apply below_alloc | apply pw_below_drewN | apply below_drew1) | exact HB.out))); rintro e w53 ⟨rfl, hb⟩; have n0_ := Aside0.mk (below_step (by repeat (first | (with_reducible first | exact HB.out | apply below_alloc | apply pw_below_drewN | apply below_drew1) | exact HB.out)) hb); clear HB; have HB := n0_; clear n0_; (try clear hb); (try clear hb2); (try clear hk); (try clear hi)) | (go_at_call 20; (with_reducible refine (name_Under.calls kj32 a0 a0 t236 _ ?side1 A52.out).mono ?_); (case side1 => exact glob_below HG.out (by repeat (first | (with_reducible first | exact HB.out | apply below_alloc | apply pw_below_drewN | apply below_drew1) | exact HB.out))); rintro e w54 ⟨rfl, hb⟩; have n0_ := Aside0.mk (below_step (by repeat (first | (with_reducible first | exact HB.out | apply below_alloc | apply pw_below_drewN | apply below_drew1) | exact HB.out)) hb); clear HB; have HB := n0_; clear n0_; (try clear hb); (try clear hb2); (try clear hk); (try clear hi)))
                            go_ret
                            exact ⟨by first | rfl | (simp [errW_none, errW_some] <;> rfl) | (simp [*, errW_none, errW_some] <;> rfl), by repeat (first | (with_reducible first | exact HB.out | apply below_alloc | apply pw_below_drewN | apply below_drew1) | exact HB.out)⟩
                      · rw [if_neg c43] at H
                        have c43b0 : ((a0.toList == a1.toList) == false) = false := by simpa using c43
                        (try (have c43b1 : decide ((a0.toList == a1.toList) = false) = false := by simpa using c43))
                        (try (have c43b2 : ((a0.toList == a1.toList) == false) = false := by simpa using c43))
                        (try (have c43b3 : ¬ ((a0.toList == a1.toList) = false) := by simpa using c43))
                        clear c43
                        obtain rfl := Option.some.inj H
                        go_wp2
                        go_ret
                        exact ⟨by first | rfl | (simp [errW_none, errW_some] <;> rfl) | (simp [*, errW_none, errW_some] <;> rfl), by repeat (first | (with_reducible first | exact HB.out | apply below_alloc | apply pw_below_drewN | apply below_drew1) | exact HB.out)⟩
                    · replace c42 := Bool.eq_false_iff.mpr c42
                      subst c42
                      have H1 : (if ((a0.toList == a1.toList) == (!t226)) = true then ((name_Under.f kj32 a0 a1).bind fun t237 => (if t237 = true then (if a0.toList = a1.toList then ((name_Under.f kj32 a0 a0).bind fun t238 => (some t238)) else (if t226 = true then ((name_Under.f kj32 a0 a0).bind fun t239 => (some t239)) else (some false))) else ((name_Under.f kj32 a0 a0).bind fun t240 => (some t240)))) else (some false)) = some r := by rw [if_neg (show ¬ (false = true) by decide)] at H; exact H
                      clear H
                      have H := H1
                      clear H1
                      by_cases c55 : ((a0.toList == a1.toList) == (!t226)) = true
                      · rw [if_pos c55] at H
                        have c55b0 : ((a0.toList == a1.toList) == (!t226)) = true := c55
                        (try (have c55b1 : decide ((a0.toList == a1.toList) = (!t226)) = true := by simpa using c55))
                        (try (have c55b2 : ((a0.toList == a1.toList) == (!t226)) = true := by simpa using c55))
                        clear c55
                        replace H := Option.bind_eq_some_iff.mp H
                        obtain ⟨t237, A560, H⟩ := H
                        replace H : (if t237 = true then (if a0.toList = a1.toList then ((name_Under.f kj32 a0 a0).bind fun t238 => (some t238)) else (if t226 = true then ((name_Under.f kj32 a0 a0).bind fun t239 => (some t239)) else (some false))) else ((name_Under.f kj32 a0 a0).bind fun t240 => (some t240))) = some r := H
                        have A56 := Aside0.mk A560
                        clear A560
                        by_cases c57 : t237 = true
                        · subst c57
                          have H1 : (if a0.toList = a1.toList then ((name_Under.f kj32 a0 a0).bind fun t238 => (some t238)) else (if t226 = true then ((name_Under.f kj32 a0 a0).bind fun t239 => (some t239)) else (some false))) = some r := by rw [if_pos rfl] at H; exact H
                          clear H
                          have H := H1
                          clear H1
                          by_cases c58 : a0.toList = a1.toList
                          · rw [if_pos c58] at H
                            have c58b0 : (a0.toList == a1.toList) = true := beq_iff_eq.mpr c58
                            have c58b1 : (a0.toList != a1.toList) = false := bne_eq_false_iff_eq.mpr c58
                            have tf_ : t226 = false := by simpa [c58b0] using c55b0
                            clear c58
                            replace H := Option.bind_eq_some_iff.mp H
                            obtain ⟨t238, A590, H⟩ := H
                            replace H : (some t238) = some r := H
                            have A59 := Aside0.mk A590
                            clear A590
                            obtain rfl := Option.some.inj H
                            go_wp2_with (first | (go_at_call 20; (with_reducible refine (name_Under.calls kj32 a0 a1 true _ ?side1 A56.out).mono ?_); (case side1 => exact glob_below HG.out (by repeat (first | (with_reducible first | exact HB.out | apply below_alloc | apply pw_below_drewN | apply below_drew1) | exact HB.out))); rintro e w60 ⟨rfl, hb⟩; have n0_ := Aside0.mk (below_step (by repeat (first | (with_reducible first | exact HB.out | apply below_alloc | apply pw_below_drewN | apply below_drew1) | exact HB.out)) hb); clear HB; have HB := n0_; clear n0_; (try clear hb); (try clear hb2); (try clear hk); (try clear hi)) | (go_at_call 20; (with_reducible refine (name_Under.calls kj32 a0 a0 t238 _ ?side1 A59.out).mono ?_); (case side1 => exact glob_below HG.out (by repeat (first | (with_reducible first | exact HB.out | apply below_alloc | apply pw_below_drewN | apply below_drew1) | exact HB.out))); rintro e w61 ⟨rfl, hb⟩; have n0_ := Aside0.mk (below_step (by repeat (first | (with_reducible first | exact HB.out | apply below_alloc | apply pw_below_drewN | apply below_drew1) | exact HB.out)) hb); clear HB; have HB := n0_; clear n0_; (try clear hb); (try clear hb2); (try clear hk); (try clear hi)))
                            go_ret
                            exact ⟨by first | rfl | (simp [errW_none, errW_some] <;> rfl) | (simp [*, errW_none, errW_some] <;> rfl), by repeat (first | (with_reducible first | exact HB.out | apply below_alloc | apply pw_below_drewN | apply below_drew1) | exact HB.out)⟩
                          · rw [if_neg c58] at H
                            have c58b0 : (a0.toList == a1.toList) = false := beq_eq_false_iff_ne.mpr c58
                            have c58b1 : (a0.toList != a1.toList) = true := bne_iff_ne.mpr c58
                            have tf_ : t226 = true := by simpa [c58b0] using c55b0
                            by_cases c62 : t226 = true
                            · subst c62
                              have H1 : ((name_Under.f kj32 a0 a0).bind fun t239 => (some t239)) = some r := by rw [if_pos rfl] at H; exact H
                              clear H
                              have H := H1
                              clear H1
                              replace H := Option.bind_eq_some_iff.mp H
                              obtain ⟨t239, A630, H⟩ := H
                              replace H : (some t239) = some r := H
                              have A63 := Aside0.mk A630
                              clear A630
                              obtain rfl := Option.some.inj H
                              go_wp2_with (first | (go_at_call 20; (with_reducible refine (name_Under.calls kj32 a0 a1 true _ ?side1 A56.out).mono ?_); (case side1 => exact glob_below HG.out (by repeat (first | (with_reducible first | exact HB.out | apply below_alloc | apply pw_below_drewN | apply below_drew1) | exact HB.out))); rintro e w64 ⟨rfl, hb⟩; have n0_ := Aside0.mk (below_step (by repeat (first | (with_reducible first | exact HB.out | apply below_alloc | apply pw_below_drewN | apply below_drew1) | exact HB.out)) hb); clear HB; have HB := n0_; clear n0_; (try clear hb); (try clear hb2); (try clear hk); (try clear hi)) | (go_at_call 20; (with_reducible refine (name_Under.calls kj32 a0 a0 t239 _ ?side1 A63.out).mono ?_); (case side1 => exact glob_below HG.out (by repeat (first | (with_reducible first | exact HB.out | apply below_alloc | apply pw_below_drewN | apply below_drew1) | exact HB.out))); rintro e w65 ⟨rfl, hb⟩; have n0_ := Aside0.mk (below_step (by repeat (first | (with_reducible first | exact HB.out | apply below_alloc | apply pw_below_drewN | apply below_drew1) | exact HB.out)) hb); clear HB; have HB := n0_; clear n0_; (try clear hb); (try clear hb2); (try clear hk); (try clear hi)))
                              go_ret
                              exact ⟨by first | rfl | (simp [errW_none, errW_some] <;> rfl) | (simp [*, errW_none, errW_some] <;> rfl), by repeat (first | (with_reducible first | exact HB.out | apply below_alloc | apply pw_below_drewN | apply below_drew1) | exact HB.out)⟩
                            · replace c62 := Bool.eq_false_iff.mpr c62
                              subst c62
                              exact absurd tf_ (by decide)
                        · replace c57 := Bool.eq_false_iff.mpr c57
                          subst c57
                          have H1 : ((name_Under.f kj32 a0 a0).bind fun t240 => (some t240)) = some r := by rw [if_neg (show ¬ (false = true) by decide)] at H; exact H
                          clear H
                          have H := H1
                          clear H1
                          replace H := Option.bind_eq_some_iff.mp H
                          obtain ⟨t240, A670, H⟩ := H
                          replace H : (some t240) = some r := H
                          have A67 := Aside0.mk A670
                          clear A670
                          obtain rfl := Option.some.inj H
                          go_wp2_with (first | (go_at_call 20; (with_reducible refine (name_Under.calls kj32 a0 a1 false _ ?side1 A56.out).mono ?_); (case side1 => exact glob_below HG.out (by repeat (first | (with_reducible first | exact HB.out | apply below_alloc | apply pw_below_drewN | apply below_drew1) | exact HB.out))); rintro e w68 ⟨rfl, hb⟩; have n0_ := Aside0.mk (below_step (by repeat (first | (with_reducible first | exact HB.out | apply below_alloc | apply pw_below_drewN | apply below_drew1) | exact HB.out)) hb); clear HB; have HB := n0_; clear n0_; (try clear hb); (try clear hb2); (try clear hk); (try clear hi)) | (go_at_call 20; (with_reducible refine (name_Under.calls kj32 a0 a0 t240 _ ?side1 A67.out).mono ?_); (case side1 => exact glob_below HG.out (by repeat (first | (with_reducible first | exact HB.out | apply below_alloc | apply pw_below_drewN | apply below_drew1) | exact HB.out))); rintro e w69 ⟨rfl, hb⟩; have n0_ := Aside0.mk (below_step (by repeat (first | (with_reducible first | exact HB.out | apply below_alloc | apply pw_below_drewN | apply below_drew1) | exact HB.out)) hb); clear HB; have HB := n0_; clear n0_; (try clear hb); (try clear hb2); (try clear hk); (try clear hi)))
                          go_ret
                          exact ⟨by first | rfl | (simp [errW_none, errW_some] <;> rfl) | (simp [*, errW_none, errW_some] <;> rfl), by repeat (first | (with_reducible first | exact HB.out | apply below_alloc | apply pw_below_drewN | apply below_drew1) | exact HB.out)⟩
                      · rw [if_neg c55] at H
                        have c55b0 : ((a0.toList == a1.toList) == (!t226)) = false := by simpa using c55
                        (try (have c55b1 : decide ((a0.toList == a1.toList) = (!t226)) = false := by simpa using c55))
                        (try (have c55b2 : ((a0.toList == a1.toList) == (!t226)) = false := by simpa using c55))
                        (try (have c55b3 : ¬ ((a0.toList == a1.toList) = (!t226)) := by simpa using c55))
                        clear c55
                        obtain rfl := Option.some.inj H
                        go_wp2
                        go_ret
                        exact ⟨by first | rfl | (simp [errW_none, errW_some] <;> rfl) | (simp [*, errW_none, errW_some] <;> rfl), by repeat (first | (with_reducible first | exact HB.out | apply below_alloc | apply pw_below_drewN | apply below_drew1) | exact HB.out)⟩

/-- THE ONE PURE STATEMENT of rhynelaw17_NameOrders: yours. -/
def rhynelaw17_NameOrders.Pure : Prop := ∀ (a0 : ByteArray) (a1 : ByteArray), a0.size ≤ 140737488351232 → a1.size ≤ 140737488351232 → ∃ k, rhynelaw17_NameOrders.f k a0 a1 = some true
theorem rhynelaw17_NameOrders.walk (P : rhynelaw17_NameOrders.Pure) (a0 : ByteArray) (a1 : ByteArray) (w : World) (w0 : a0.size ≤ 140737488351232) (w1 : a1.size ≤ 140737488351232) (hG : GlobT w) :
    Calls Tryd.prog 4 #[.string a0, .string a1] w fun e w' => e = .returned (.bool true) ∧ Below w.heap.size w w' := by
  obtain ⟨k, h⟩ := P a0 a1 w0 w1
  refine (rhynelaw17_NameOrders.calls k a0 a1 true w hG h).mono ?_
  rintro e w' ⟨rfl, hd⟩
  exact ⟨rfl, hd⟩

end Go.Proofs.YtkmjempbechagaaDoor.X
