-- written by xprint.py, a program of this claim's work (wip/xprint), which runs the kit's printer with hooks
import Derived.Test.YthagjeomcgphiaaDoorX0
import Derived.Test.YthagjeomcgphiaaDoorX1
import Derived.Test.YthagjeomcgphiaaDoorX4
namespace Go.Proofs.YthagjeomcgphiaaDoor.X
open Go.RowKit Go.Proofs.YthagjeomcgphiaaDoorW.PrintWords Go.Proofs.YthagjeomcgphiaaDoorW.PrintLast Go.Proofs.YthagjeomcgphiaaDoorW.PrintMore
attribute [local go_sem] max2_int min2_int max_two min_two max_three min_three max_four min_four   -- for this text's walks alone
set_option linter.unusedVariables false
set_option linter.unusedSimpArgs false

/-! ### packet_Whole: function 17 -/
mutual
def packet_Whole.j0 : Nat → Int → Int → Int → Bool → Option (Int × Int)
 | 0, _, _, _, _ => none
 | k + 1, x0, x1, x2, x26 => if x26 = true then (some (0, 1)) else (if 0 ≤ (wrap64 (8 * x1)) then (if (Go.bits .or .i64 (Go.bits .andNot .i64 x2 (wrap64 ((shl .i64 1 (wrap64 (8 * x1))) - 1))) x0) ≤ (wrap64 (x2 - (wrap64 (Int.tdiv (shl .i64 1 (wrap64 (8 * x1))) 2)))) then (packet_Whole.j1 k x2 (shl .i64 1 (wrap64 (8 * x1))) (Go.bits .or .i64 (Go.bits .andNot .i64 x2 (wrap64 ((shl .i64 1 (wrap64 (8 * x1))) - 1))) x0) (decide ((Go.bits .or .i64 (Go.bits .andNot .i64 x2 (wrap64 ((shl .i64 1 (wrap64 (8 * x1))) - 1))) x0) ≤ (wrap64 (4611686018427387903 - (shl .i64 1 (wrap64 (8 * x1)))))))) else (packet_Whole.j1 k x2 (shl .i64 1 (wrap64 (8 * x1))) (Go.bits .or .i64 (Go.bits .andNot .i64 x2 (wrap64 ((shl .i64 1 (wrap64 (8 * x1))) - 1))) x0) false)) else (none))
def packet_Whole.j1 : Nat → Int → Int → Int → Bool → Option (Int × Int)
 | 0, _, _, _, _ => none
 | k + 1, x2, x8, x9, x36 => if x36 = true then (some (wrap64 (x9 + x8), 0)) else (if x9 > (wrap64 (x2 + (wrap64 (Int.tdiv x8 2)))) then (if x9 ≥ x8 then (some (wrap64 (x9 - x8), 0)) else (some (x9, 0))) else (some (x9, 0)))
end
def packet_Whole.f (k : Nat) (a0 : Int) (a1 : Int) (a2 : Int) : Option (Int × Int) := (packet_within.f a1 1 4).bind fun t220 => (if t220 = true then (if 0 ≤ (wrap64 (8 * a1)) then ((packet_within.f a0 0 (wrap64 ((shl .i64 1 (wrap64 (8 * a1))) - 1))).bind fun t221 => (if t221 = true then ((packet_within.f a2 0 4611686018427387903).bind fun t222 => (packet_Whole.j0 k a0 a1 a2 (!t222))) else (packet_Whole.j0 k a0 a1 a2 true))) else (none)) else (packet_Whole.j0 k a0 a1 a2 true))
theorem packet_Whole.mono_l : ∀ k, (∀ y0 y1 y2 y3, LeO (packet_Whole.j0 k y0 y1 y2 y3) (packet_Whole.j0 (k + 1) y0 y1 y2 y3)) ∧ (∀ y0 y1 y2 y3, LeO (packet_Whole.j1 k y0 y1 y2 y3) (packet_Whole.j1 (k + 1) y0 y1 y2 y3))
 | 0 => ⟨fun _ _ _ _ r h => by simp [packet_Whole.j0] at h, fun _ _ _ _ r h => by simp [packet_Whole.j1] at h⟩
 | k + 1 => by
  obtain ⟨ih0, ih1⟩ := packet_Whole.mono_l k
  refine ⟨?_, ?_⟩
  ·
   intro y0 y1 y2 y3
   unfold packet_Whole.j0
   repeat' first
   | (with_reducible exact ih0 _ _ _ _)
   | (with_reducible exact ih1 _ _ _ _)
   | (with_reducible exact LeO.refl _)
   | (with_reducible exact LeO.none _)
   | (with_reducible refine LeO.ite ?_ ?_)
   | (with_reducible refine LeO.bind ?_ (fun _ => ?_))
   | exact ih0 _ _ _ _
   | exact ih1 _ _ _ _
   | exact LeO.none _
   | refine LeO.ite ?_ ?_
   | refine LeO.bind ?_ (fun _ => ?_)
  ·
   intro y0 y1 y2 y3
   unfold packet_Whole.j1
   repeat' first
   | (with_reducible exact ih0 _ _ _ _)
   | (with_reducible exact ih1 _ _ _ _)
   | (with_reducible exact LeO.refl _)
   | (with_reducible exact LeO.none _)
   | (with_reducible refine LeO.ite ?_ ?_)
   | (with_reducible refine LeO.bind ?_ (fun _ => ?_))
   | exact ih0 _ _ _ _
   | exact ih1 _ _ _ _
   | exact LeO.none _
   | refine LeO.ite ?_ ?_
   | refine LeO.bind ?_ (fun _ => ?_)
theorem packet_Whole.mono : ∀ a0 a1 a2 k, LeO (packet_Whole.f k a0 a1 a2) (packet_Whole.f (k + 1) a0 a1 a2) := by
 intro a0 a1 a2 k
 obtain ⟨ih0, ih1⟩ := packet_Whole.mono_l k
 unfold packet_Whole.f
 repeat' first
   | (with_reducible exact ih0 _ _ _ _)
   | (with_reducible exact ih1 _ _ _ _)
   | (with_reducible exact LeO.refl _)
   | (with_reducible exact LeO.none _)
   | (with_reducible refine LeO.ite ?_ ?_)
   | (with_reducible refine LeO.bind ?_ (fun _ => ?_))
   | exact ih0 _ _ _ _
   | exact ih1 _ _ _ _
   | exact LeO.none _
   | refine LeO.ite ?_ ?_
   | refine LeO.bind ?_ (fun _ => ?_)
set_option maxHeartbeats 8000000 in
set_option maxRecDepth 100000 in
theorem packet_Whole.calls (k : Nat) (a0 : Int) (a1 : Int) (a2 : Int) (r1 : Int) (r2 : Int) (w : World) (h : packet_Whole.f k a0 a1 a2 = some (r1, r2)) :
  Calls Tryd.prog 17 #[.int .i64 a0, .int .i64 a1, .int .i64 a2] w fun e w' => e = .returned (.tuple #[.int .i64 r1, .int .i64 r2]) ∧ Drawn0 w w' := by
 have H : ((packet_within.f a1 1 4).bind fun t220 => (if t220 = true then (if 0 ≤ (wrap64 (8 * a1)) then ((packet_within.f a0 0 (wrap64 ((shl .i64 1 (wrap64 (8 * a1))) - 1))).bind fun t221 => (if t221 = true then ((packet_within.f a2 0 4611686018427387903).bind fun t222 => (packet_Whole.j0 k a0 a1 a2 (!t222))) else (packet_Whole.j0 k a0 a1 a2 true))) else (none)) else (packet_Whole.j0 k a0 a1 a2 true))) = some (r1, r2) := h
 clear h
 have HC4 := Aside0.mk H
 clear H
 go_enter Tryd.func17, Tryd.ntmps17
 go_upto_region 1 with (fail)
 go_cut [26] (fun v26 wc => ∃ (kq : Nat) (x26_3 : Bool), v26 = .bool x26_3 ∧ Aside0 (packet_Whole.j0 kq a0 a1 a2 x26_3 = some (r1, r2)) ∧ Aside0 (kq ≤ k) ∧ Drawn0 w wc)
 case first =>
  have H := HC4.out
  clear HC4
  replace H := Option.bind_eq_some_iff.mp H
  obtain ⟨t220, A50, H⟩ := H
  replace H : (if t220 = true then (if 0 ≤ (wrap64 (8 * a1)) then ((packet_within.f a0 0 (wrap64 ((shl .i64 1 (wrap64 (8 * a1))) - 1))).bind fun t221 => (if t221 = true then ((packet_within.f a2 0 4611686018427387903).bind fun t222 => (packet_Whole.j0 k a0 a1 a2 (!t222))) else (packet_Whole.j0 k a0 a1 a2 true))) else (none)) else (packet_Whole.j0 k a0 a1 a2 true)) = some (r1, r2) := H
  have A5 := Aside0.mk A50
  clear A50
  by_cases c6 : t220 = true
  ·
   subst c6
   have H1 : (if 0 ≤ (wrap64 (8 * a1)) then ((packet_within.f a0 0 (wrap64 ((shl .i64 1 (wrap64 (8 * a1))) - 1))).bind fun t221 => (if t221 = true then ((packet_within.f a2 0 4611686018427387903).bind fun t222 => (packet_Whole.j0 k a0 a1 a2 (!t222))) else (packet_Whole.j0 k a0 a1 a2 true))) else (none)) = some (r1, r2) := by rw [if_pos rfl] at H; exact H
   clear H
   have H := H1
   clear H1
   obtain ⟨ji7, hji7⟩ : ∃ j_ : Int, (wrap64 (8 * a1)) = j_ := ⟨_, rfl⟩
   replace H : (if 0 ≤ (ji7) then ((packet_within.f a0 0 (wrap64 ((shl .i64 1 (ji7)) - 1))).bind fun t221 => (if t221 = true then ((packet_within.f a2 0 4611686018427387903).bind fun t222 => (packet_Whole.j0 k a0 a1 a2 (!t222))) else (packet_Whole.j0 k a0 a1 a2 true))) else (none)) = some (r1, r2) := by first | (rw [hji7] at H; exact H) | (simp only [hji7] at H ⊢; exact H)
   (try rw [hji7] at A5)
   have hji7w : (IntKind.i64.wrap (8 * a1)) = ji7 := (i64_w _).trans hji7
   by_cases c8 : 0 ≤ (ji7)
   ·
    rw [if_pos c8] at H
    have c8b0 := eq_true c8
    have c8b1 : decide (0 ≤ (ji7)) = true := decide_eq_true c8
    clear c8
    obtain ⟨ji9, hji9⟩ : ∃ j_ : Int, (shl .i64 1 (ji7)) = j_ := ⟨_, rfl⟩
    replace H : ((packet_within.f a0 0 (wrap64 ((ji9) - 1))).bind fun t221 => (if t221 = true then ((packet_within.f a2 0 4611686018427387903).bind fun t222 => (packet_Whole.j0 k a0 a1 a2 (!t222))) else (packet_Whole.j0 k a0 a1 a2 true))) = some (r1, r2) := by first | (rw [hji9] at H; exact H) | (simp only [hji9] at H ⊢; exact H)
    (try rw [hji9] at A5)
    have hji9_ : (IntKind.i64.wrap (1 * 2 ^ min (ji7).toNat 64)) = ji9 := hji9
    have hji9z : (ji7) ≤ 64 → (IntKind.i64.wrap (1 * 2 ^ (ji7).toNat)) = ji9 := shl_small hji9
    have hji9u : (IntKind.i64.wrap (2 ^ min (ji7).toNat 64)) = ji9 := by have h_ := hji9_; rw [Int.one_mul] at h_; exact h_
    have hji9v : (ji7) ≤ 64 → (IntKind.i64.wrap (2 ^ (ji7).toNat)) = ji9 := fun hle_ => by have h_ := hji9z hle_; rw [Int.one_mul] at h_; exact h_
    have hji9y : (wrap64 (1 * 2 ^ min (ji7).toNat 64)) = ji9 := (i64_w _).symm.trans hji9_
    have hji9x : (ji7) ≤ 64 → (wrap64 (1 * 2 ^ (ji7).toNat)) = ji9 := fun h_ => (i64_w _).symm.trans (hji9z h_)
    replace H := Option.bind_eq_some_iff.mp H
    obtain ⟨t221, A100, H⟩ := H
    replace H : (if t221 = true then ((packet_within.f a2 0 4611686018427387903).bind fun t222 => (packet_Whole.j0 k a0 a1 a2 (!t222))) else (packet_Whole.j0 k a0 a1 a2 true)) = some (r1, r2) := H
    have A10 := Aside0.mk A100
    clear A100
    by_cases c11 : t221 = true
    ·
     subst c11
     have H1 : ((packet_within.f a2 0 4611686018427387903).bind fun t222 => (packet_Whole.j0 k a0 a1 a2 (!t222))) = some (r1, r2) := by rw [if_pos rfl] at H; exact H
     clear H
     have H := H1
     clear H1
     replace H := Option.bind_eq_some_iff.mp H
     obtain ⟨t222, A120, H⟩ := H
     replace H : (packet_Whole.j0 k a0 a1 a2 (!t222)) = some (r1, r2) := H
     have A12 := Aside0.mk A120
     clear A120
     have H' := Aside0.mk H
     clear H
     go_wp2_with (first | ((with_reducible refine gate_callee (f := 41) rfl ?_); refine goesL_ (some 11) rfl rfl Tryd.func41 (by kernel_rfl) rfl #[.int .i64 a1, .int .i64 1, .int .i64 4] rfl (by (try simp only [List.map_toArray, List.map_cons, List.map_nil]); first | done | rfl | (simp only [List.length_drop, List.length_take]; rfl)) ?_; (with_reducible refine (packet_within.calls a1 1 4 true _ A5.out).mono ?_); rintro e w' ⟨rfl, ⟨nd, rfl⟩⟩; refine ⟨_, rfl, ?_⟩) | (go_at_call 41; (with_reducible refine (packet_within.calls a0 0 (wrap64 ((ji9) - 1)) true _ A10.out).mono ?_); rintro e w' ⟨rfl, ⟨nd, rfl⟩⟩) | (go_at_call 41; (with_reducible refine (packet_within.calls a2 0 4611686018427387903 t222 _ A12.out).mono ?_); rintro e w' ⟨rfl, ⟨nd, rfl⟩⟩))
     go_meet
     case rel => exact ⟨_, (!t222), (by first | rfl | (simp; done) | (simp [*]; done)), H', ⟨by first | omega | exact Nat.le_refl _⟩, by repeat (first | exact Drawn0.refl _ | apply Drawn0.step)⟩
    ·
     replace c11 := Bool.eq_false_iff.mpr c11
     subst c11
     have H1 : (packet_Whole.j0 k a0 a1 a2 true) = some (r1, r2) := by rw [if_neg (show ¬ (false = true) by decide)] at H; exact H
     clear H
     have H := H1
     clear H1
     have H' := Aside0.mk H
     clear H
     go_wp2_with (first | ((with_reducible refine gate_callee (f := 41) rfl ?_); refine goesL_ (some 11) rfl rfl Tryd.func41 (by kernel_rfl) rfl #[.int .i64 a1, .int .i64 1, .int .i64 4] rfl (by (try simp only [List.map_toArray, List.map_cons, List.map_nil]); first | done | rfl | (simp only [List.length_drop, List.length_take]; rfl)) ?_; (with_reducible refine (packet_within.calls a1 1 4 true _ A5.out).mono ?_); rintro e w' ⟨rfl, ⟨nd, rfl⟩⟩; refine ⟨_, rfl, ?_⟩) | (go_at_call 41; (with_reducible refine (packet_within.calls a0 0 (wrap64 ((ji9) - 1)) false _ A10.out).mono ?_); rintro e w' ⟨rfl, ⟨nd, rfl⟩⟩))
     go_meet
     case rel => exact ⟨_, (true), (by first | rfl | (simp; done) | (simp [*]; done)), H', ⟨by first | omega | exact Nat.le_refl _⟩, by repeat (first | exact Drawn0.refl _ | apply Drawn0.step)⟩
   ·
    rw [if_neg c8] at H
    exact absurd H (by simp)
  ·
   replace c6 := Bool.eq_false_iff.mpr c6
   subst c6
   have H1 : (packet_Whole.j0 k a0 a1 a2 true) = some (r1, r2) := by rw [if_neg (show ¬ (false = true) by decide)] at H; exact H
   clear H
   have H := H1
   clear H1
   have H' := Aside0.mk H
   clear H
   go_wp2_with (first | ((with_reducible refine gate_callee (f := 41) rfl ?_); refine goesL_ (some 11) rfl rfl Tryd.func41 (by kernel_rfl) rfl #[.int .i64 a1, .int .i64 1, .int .i64 4] rfl (by (try simp only [List.map_toArray, List.map_cons, List.map_nil]); first | done | rfl | (simp only [List.length_drop, List.length_take]; rfl)) ?_; (with_reducible refine (packet_within.calls a1 1 4 false _ A5.out).mono ?_); rintro e w' ⟨rfl, ⟨nd, rfl⟩⟩; refine ⟨_, rfl, ?_⟩))
   go_meet
   case rel => exact ⟨_, (true), (by first | rfl | (simp; done) | (simp [*]; done)), H', ⟨by first | omega | exact Nat.le_refl _⟩, by repeat (first | exact Drawn0.refl _ | apply Drawn0.step)⟩
 case rest =>
  clear HC4
  try clear c1
  try clear p2
  try clear c4
  try clear c6
  try clear p6
  try clear c8
  try clear c8b0
  try clear c8b1
  try clear c11
  obtain ⟨kq, x26_3, rfl, HA, HJ3, ⟨mc3, rfl⟩⟩ := hcut
  cases kq with
  | zero => exact absurd HA.out (by simp [packet_Whole.j0])
  | succ kj3 =>
   have H := HA.out
   clear HA
   simp only [packet_Whole.j0] at H
   by_cases c13 : x26_3 = true
   ·
    subst c13
    have H1 : (some (0, 1)) = some (r1, r2) := by rw [if_pos rfl] at H; exact H
    clear H
    have H := H1
    clear H1
    simp only [Option.some.injEq, Prod.mk.injEq] at H
    obtain ⟨rfl, rfl⟩ := H
    go_wp2
    go_ret2
    exact ⟨by first | rfl | (simp; done) | (simp [*]; done), by repeat (first | exact Drawn0.refl _ | apply Drawn0.step)⟩
   ·
    replace c13 := Bool.eq_false_iff.mpr c13
    subst c13
    have H1 : (if 0 ≤ (wrap64 (8 * a1)) then (if (Go.bits .or .i64 (Go.bits .andNot .i64 a2 (wrap64 ((shl .i64 1 (wrap64 (8 * a1))) - 1))) a0) ≤ (wrap64 (a2 - (wrap64 (Int.tdiv (shl .i64 1 (wrap64 (8 * a1))) 2)))) then (packet_Whole.j1 kj3 a2 (shl .i64 1 (wrap64 (8 * a1))) (Go.bits .or .i64 (Go.bits .andNot .i64 a2 (wrap64 ((shl .i64 1 (wrap64 (8 * a1))) - 1))) a0) (decide ((Go.bits .or .i64 (Go.bits .andNot .i64 a2 (wrap64 ((shl .i64 1 (wrap64 (8 * a1))) - 1))) a0) ≤ (wrap64 (4611686018427387903 - (shl .i64 1 (wrap64 (8 * a1)))))))) else (packet_Whole.j1 kj3 a2 (shl .i64 1 (wrap64 (8 * a1))) (Go.bits .or .i64 (Go.bits .andNot .i64 a2 (wrap64 ((shl .i64 1 (wrap64 (8 * a1))) - 1))) a0) false)) else (none)) = some (r1, r2) := by rw [if_neg (show ¬ (false = true) by decide)] at H; exact H
    clear H
    have H := H1
    clear H1
    obtain ⟨ji14, hji14⟩ : ∃ j_ : Int, (wrap64 (8 * a1)) = j_ := ⟨_, rfl⟩
    replace H : (if 0 ≤ (ji14) then (if (Go.bits .or .i64 (Go.bits .andNot .i64 a2 (wrap64 ((shl .i64 1 (ji14)) - 1))) a0) ≤ (wrap64 (a2 - (wrap64 (Int.tdiv (shl .i64 1 (ji14)) 2)))) then (packet_Whole.j1 kj3 a2 (shl .i64 1 (ji14)) (Go.bits .or .i64 (Go.bits .andNot .i64 a2 (wrap64 ((shl .i64 1 (ji14)) - 1))) a0) (decide ((Go.bits .or .i64 (Go.bits .andNot .i64 a2 (wrap64 ((shl .i64 1 (ji14)) - 1))) a0) ≤ (wrap64 (4611686018427387903 - (shl .i64 1 (ji14))))))) else (packet_Whole.j1 kj3 a2 (shl .i64 1 (ji14)) (Go.bits .or .i64 (Go.bits .andNot .i64 a2 (wrap64 ((shl .i64 1 (ji14)) - 1))) a0) false)) else (none)) = some (r1, r2) := by first | (rw [hji14] at H; exact H) | (simp only [hji14] at H ⊢; exact H)
    have hji14w : (IntKind.i64.wrap (8 * a1)) = ji14 := (i64_w _).trans hji14
    by_cases c15 : 0 ≤ (ji14)
    ·
     rw [if_pos c15] at H
     have c15b0 := eq_true c15
     have c15b1 : decide (0 ≤ (ji14)) = true := decide_eq_true c15
     clear c15
     obtain ⟨ji16, hji16⟩ : ∃ j_ : Int, (shl .i64 1 (ji14)) = j_ := ⟨_, rfl⟩
     replace H : (if (Go.bits .or .i64 (Go.bits .andNot .i64 a2 (wrap64 ((ji16) - 1))) a0) ≤ (wrap64 (a2 - (wrap64 (Int.tdiv (ji16) 2)))) then (packet_Whole.j1 kj3 a2 ji16 (Go.bits .or .i64 (Go.bits .andNot .i64 a2 (wrap64 ((ji16) - 1))) a0) (decide ((Go.bits .or .i64 (Go.bits .andNot .i64 a2 (wrap64 ((ji16) - 1))) a0) ≤ (wrap64 (4611686018427387903 - (ji16)))))) else (packet_Whole.j1 kj3 a2 ji16 (Go.bits .or .i64 (Go.bits .andNot .i64 a2 (wrap64 ((ji16) - 1))) a0) false)) = some (r1, r2) := by first | (rw [hji16] at H; exact H) | (simp only [hji16] at H ⊢; exact H)
     have hji16_ : (IntKind.i64.wrap (1 * 2 ^ min (ji14).toNat 64)) = ji16 := hji16
     have hji16z : (ji14) ≤ 64 → (IntKind.i64.wrap (1 * 2 ^ (ji14).toNat)) = ji16 := shl_small hji16
     have hji16u : (IntKind.i64.wrap (2 ^ min (ji14).toNat 64)) = ji16 := by have h_ := hji16_; rw [Int.one_mul] at h_; exact h_
     have hji16v : (ji14) ≤ 64 → (IntKind.i64.wrap (2 ^ (ji14).toNat)) = ji16 := fun hle_ => by have h_ := hji16z hle_; rw [Int.one_mul] at h_; exact h_
     have hji16y : (wrap64 (1 * 2 ^ min (ji14).toNat 64)) = ji16 := (i64_w _).symm.trans hji16_
     have hji16x : (ji14) ≤ 64 → (wrap64 (1 * 2 ^ (ji14).toNat)) = ji16 := fun h_ => (i64_w _).symm.trans (hji16z h_)
     have HC17 := Aside0.mk H
     clear H
     go_upto_region 5 with (fail)
     go_cut [36] (fun v36 wc => ∃ (kq : Nat) (x36_16 : Bool), v36 = .bool x36_16 ∧ Aside0 (packet_Whole.j1 kq a2 ji16 (Go.bits .or .i64 (Go.bits .andNot .i64 a2 (wrap64 ((ji16) - 1))) a0) x36_16 = some (r1, r2)) ∧ Aside0 (kq ≤ kj3) ∧ Drawn0 w wc)
     case first =>
      have H := HC17.out
      clear HC17
      by_cases c18 : (Go.bits .or .i64 (Go.bits .andNot .i64 a2 (wrap64 ((ji16) - 1))) a0) ≤ (wrap64 (a2 - (wrap64 (Int.tdiv (ji16) 2))))
      ·
       rw [if_pos c18] at H
       have c18b0 : decide ((Go.bits .or .i64 (Go.bits .andNot .i64 a2 (wrap64 ((ji16) - 1))) a0) ≤ (wrap64 (a2 - (wrap64 (Int.tdiv (ji16) 2))))) = true := decide_eq_true c18
       clear c18
       (first | rw [c18b0] | (simp only [i64_w, i32_w]; rw [c18b0]) | skip)
       have H' := Aside0.mk H
       clear H
       go_wp2
       go_meet
       case rel => exact ⟨_, (decide ((Go.bits .or .i64 (Go.bits .andNot .i64 a2 (wrap64 ((ji16) - 1))) a0) ≤ (wrap64 (4611686018427387903 - (ji16))))), (by first | rfl | (simp; done) | (simp only [← hji16] <;> (first | rfl | simp)) | (simp [*]; done)), H', ⟨by have := HJ3.out; first | omega | exact Nat.le_refl _⟩, by repeat (first | exact Drawn0.refl _ | apply Drawn0.step)⟩
      ·
       rw [if_neg c18] at H
       have c18b0 : decide ((Go.bits .or .i64 (Go.bits .andNot .i64 a2 (wrap64 ((ji16) - 1))) a0) ≤ (wrap64 (a2 - (wrap64 (Int.tdiv (ji16) 2))))) = false := decide_eq_false c18
       clear c18
       (first | rw [c18b0] | (simp only [i64_w, i32_w]; rw [c18b0]) | skip)
       have H' := Aside0.mk H
       clear H
       go_wp2
       go_meet
       case rel => exact ⟨_, (false), (by first | rfl | (simp; done) | (simp [*]; done)), H', ⟨by have := HJ3.out; first | omega | exact Nat.le_refl _⟩, by repeat (first | exact Drawn0.refl _ | apply Drawn0.step)⟩
     case rest =>
      clear HC17
      try clear c1
      try clear p2
      try clear c3
      try clear c4
      try clear c6
      try clear p6
      try clear c8
      try clear c8b0
      try clear c8b1
      try clear c11
      try clear c13
      try clear c15
      try clear c15b0
      try clear c15b1
      try clear c17
      try clear c18
      try clear c18b0
      try clear p2
      try clear p6
      obtain ⟨kq, x36_16, rfl, HA, HJ16, ⟨mc16, rfl⟩⟩ := hcut
      cases kq with
      | zero => exact absurd HA.out (by simp [packet_Whole.j1])
      | succ kj16 =>
       have H := HA.out
       clear HA
       simp only [packet_Whole.j1] at H
       by_cases c19 : x36_16 = true
       ·
        subst c19
        have H1 : (some (wrap64 ((Go.bits .or .i64 (Go.bits .andNot .i64 a2 (wrap64 ((ji16) - 1))) a0) + ji16), 0)) = some (r1, r2) := by rw [if_pos rfl] at H; exact H
        clear H
        have H := H1
        clear H1
        simp only [Option.some.injEq, Prod.mk.injEq] at H
        obtain ⟨rfl, rfl⟩ := H
        go_wp2
        go_ret2
        exact ⟨by first | rfl | (simp; done) | (simp only [← hji14, ← hji16] <;> (first | rfl | simp)) | (simp [*]; done), by repeat (first | exact Drawn0.refl _ | apply Drawn0.step)⟩
       ·
        replace c19 := Bool.eq_false_iff.mpr c19
        subst c19
        have H1 : (if (Go.bits .or .i64 (Go.bits .andNot .i64 a2 (wrap64 ((ji16) - 1))) a0) > (wrap64 (a2 + (wrap64 (Int.tdiv ji16 2)))) then (if (Go.bits .or .i64 (Go.bits .andNot .i64 a2 (wrap64 ((ji16) - 1))) a0) ≥ ji16 then (some (wrap64 ((Go.bits .or .i64 (Go.bits .andNot .i64 a2 (wrap64 ((ji16) - 1))) a0) - ji16), 0)) else (some ((Go.bits .or .i64 (Go.bits .andNot .i64 a2 (wrap64 ((ji16) - 1))) a0), 0))) else (some ((Go.bits .or .i64 (Go.bits .andNot .i64 a2 (wrap64 ((ji16) - 1))) a0), 0))) = some (r1, r2) := by rw [if_neg (show ¬ (false = true) by decide)] at H; exact H
        clear H
        have H := H1
        clear H1
        by_cases c20 : (Go.bits .or .i64 (Go.bits .andNot .i64 a2 (wrap64 ((ji16) - 1))) a0) > (wrap64 (a2 + (wrap64 (Int.tdiv ji16 2))))
        ·
         rw [if_pos c20] at H
         have c20b0 : decide ((wrap64 (a2 + (wrap64 (Int.tdiv ji16 2)))) < (Go.bits .or .i64 (Go.bits .andNot .i64 a2 (wrap64 ((ji16) - 1))) a0)) = true := decide_eq_true c20
         clear c20
         by_cases c21 : (Go.bits .or .i64 (Go.bits .andNot .i64 a2 (wrap64 ((ji16) - 1))) a0) ≥ ji16
         ·
          rw [if_pos c21] at H
          have c21b0 : decide (ji16 ≤ (Go.bits .or .i64 (Go.bits .andNot .i64 a2 (wrap64 ((ji16) - 1))) a0)) = true := decide_eq_true c21
          clear c21
          simp only [Option.some.injEq, Prod.mk.injEq] at H
          obtain ⟨rfl, rfl⟩ := H
          go_wp2
          go_ret2
          exact ⟨by first | rfl | (simp; done) | (simp only [← hji14, ← hji16] <;> (first | rfl | simp)) | (simp [*]; done), by repeat (first | exact Drawn0.refl _ | apply Drawn0.step)⟩
         ·
          rw [if_neg c21] at H
          have c21b0 : decide (ji16 ≤ (Go.bits .or .i64 (Go.bits .andNot .i64 a2 (wrap64 ((ji16) - 1))) a0)) = false := decide_eq_false c21
          clear c21
          simp only [Option.some.injEq, Prod.mk.injEq] at H
          obtain ⟨rfl, rfl⟩ := H
          go_wp2
          go_ret2
          exact ⟨by first | rfl | (simp; done) | (simp only [← hji14, ← hji16] <;> (first | rfl | simp)) | (simp [*]; done), by repeat (first | exact Drawn0.refl _ | apply Drawn0.step)⟩
        ·
         rw [if_neg c20] at H
         have c20b0 : decide ((wrap64 (a2 + (wrap64 (Int.tdiv ji16 2)))) < (Go.bits .or .i64 (Go.bits .andNot .i64 a2 (wrap64 ((ji16) - 1))) a0)) = false := decide_eq_false c20
         clear c20
         simp only [Option.some.injEq, Prod.mk.injEq] at H
         obtain ⟨rfl, rfl⟩ := H
         go_wp2
         go_ret2
         exact ⟨by first | rfl | (simp; done) | (simp only [← hji14, ← hji16] <;> (first | rfl | simp)) | (simp [*]; done), by repeat (first | exact Drawn0.refl _ | apply Drawn0.step)⟩
    ·
     rw [if_neg c15] at H
     exact absurd H (by simp)

/-! ### rhynelaw08_heads: function 15 -/
def rhynelaw08_heads.f (k : Nat)  : Option (Bool) := (packet_Put.f k 4 0 (⟨#[97, 98]⟩ : ByteArray) (⟨#[]⟩ : ByteArray) (⟨#[]⟩ : ByteArray) 0 258 1 false ([] : List Int)).bind fun bt223 => ((packet_Whole.f k 39730 2 2821665003).bind fun bt227 => (if bt223.2 = 0 then (if bt227.2 = 0 then (if (strOfNums bt223.1).toList = ([64, 97, 98, 2] : List UInt8) then (some (bt227.1 == 2821692210)) else (some false)) else (some false)) else (some false)))
theorem rhynelaw08_heads.mono : ∀ k, LeO (rhynelaw08_heads.f k ) (rhynelaw08_heads.f (k + 1) ) := by
 intro  k
 unfold rhynelaw08_heads.f
 repeat' first
   | (with_reducible exact packet_Put.mono _ _ _ _ _ _ _ _ _ _ _)
   | (with_reducible exact packet_Whole.mono _ _ _ _)
   | (with_reducible exact LeO.refl _)
   | (with_reducible exact LeO.none _)
   | (with_reducible refine LeO.ite ?_ ?_)
   | (with_reducible refine LeO.bind ?_ (fun _ => ?_))
   | exact packet_Put.mono _ _ _ _ _ _ _ _ _ _ _
   | exact packet_Whole.mono _ _ _ _
   | exact LeO.none _
   | refine LeO.ite ?_ ?_
   | refine LeO.bind ?_ (fun _ => ?_)
set_option maxHeartbeats 8000000 in
set_option maxRecDepth 100000 in
theorem rhynelaw08_heads.calls (k : Nat)  (r : Bool) (w : World) (hG : GlobT w) (h : rhynelaw08_heads.f k  = some r) :
  Calls Tryd.prog 15 #[] w fun e w' => e = .returned (.bool r) ∧ Below w.heap.size w w' := by
 have hu31 := Tryd.underlying31
 have HB := Aside0.mk (Below.refl w.heap.size w)
 have HG := Aside0.mk hG
 clear hG
 have H : ((packet_Put.f k 4 0 (⟨#[97, 98]⟩ : ByteArray) (⟨#[]⟩ : ByteArray) (⟨#[]⟩ : ByteArray) 0 258 1 false ([] : List Int)).bind fun bt223 => ((packet_Whole.f k 39730 2 2821665003).bind fun bt227 => (if bt223.2 = 0 then (if bt227.2 = 0 then (if (strOfNums bt223.1).toList = ([64, 97, 98, 2] : List UInt8) then (some (bt227.1 == 2821692210)) else (some false)) else (some false)) else (some false)))) = some r := h
 clear h
 replace H := Option.bind_eq_some_iff.mp H
 obtain ⟨⟨t223, t226⟩, A10, H⟩ := H
 replace H : ((packet_Whole.f k 39730 2 2821665003).bind fun bt227 => (if t226 = 0 then (if bt227.2 = 0 then (if (strOfNums t223).toList = ([64, 97, 98, 2] : List UInt8) then (some (bt227.1 == 2821692210)) else (some false)) else (some false)) else (some false))) = some r := H
 have A1 := Aside0.mk A10
 clear A10
 replace H := Option.bind_eq_some_iff.mp H
 obtain ⟨⟨t227, t228⟩, A20, H⟩ := H
 replace H : (if t226 = 0 then (if t228 = 0 then (if (strOfNums t223).toList = ([64, 97, 98, 2] : List UInt8) then (some (t227 == 2821692210)) else (some false)) else (some false)) else (some false)) = some r := H
 have A2 := Aside0.mk A20
 clear A20
 by_cases c3 : t226 = 0
 ·
  rw [if_pos c3] at H
  have c3b0 : (t226 == 0) = true := beq_iff_eq.mpr c3
  have c3b1 : (t226 != 0) = false := bne_eq_false_iff_eq.mpr c3
  clear c3
  by_cases c4 : t228 = 0
  ·
   rw [if_pos c4] at H
   have c4b0 : (t228 == 0) = true := beq_iff_eq.mpr c4
   have c4b1 : (t228 != 0) = false := bne_eq_false_iff_eq.mpr c4
   clear c4
   by_cases c5 : (strOfNums t223).toList = ([64, 97, 98, 2] : List UInt8)
   ·
    rw [if_pos c5] at H
    have c5b0 : ((strOfNums t223).toList == ([64, 97, 98, 2] : List UInt8)) = true := beq_iff_eq.mpr c5
    have c5b1 : ((strOfNums t223).toList != ([64, 97, 98, 2] : List UInt8)) = false := bne_eq_false_iff_eq.mpr c5
    clear c5
    obtain rfl := Option.some.inj H
    go_enter Tryd.func15, Tryd.ntmps15
    go_wp2_with (first | ((with_reducible refine gate_callee (f := 13) rfl ?_); refine goesL_ (some 7) rfl rfl Tryd.func13 (by kernel_rfl) rfl #[.agg #[.int .i64 4, .int .i64 0, .string (⟨#[97, 98]⟩ : ByteArray), .string (⟨#[]⟩ : ByteArray), .string (⟨#[]⟩ : ByteArray), .int .i64 0, .int .i64 258, .int .i64 1, .bool false, .slice none 0 0]] rfl (by (try simp only [List.map_toArray, List.map_cons, List.map_nil]); first | done | rfl | (simp only [List.length_drop, List.length_take]; rfl)) ?_; (refine (packet_Put.calls k 4 0 (⟨#[97, 98]⟩ : ByteArray) (⟨#[]⟩ : ByteArray) (⟨#[]⟩ : ByteArray) 0 258 1 false _ _ ([] : List Int) t223 t226 _ ?side1 ?side2 ?side3 A1.out).mono ?_); (case side1 => exact Kd.C_nil _ _); (case side2 => exact Nat.le_refl _); (case side3 => exact glob_below HG.out (by repeat (first | (with_reducible first | exact HB.out | apply below_alloc | apply pw_below_drewN | apply below_drew1) | exact HB.out))); rintro e w6 ⟨v224, rfl, ho0, hb⟩; refine ⟨_, rfl, ?_⟩; have n0_ := Aside0.mk (Kd.R_lower ho0 (below_size (by repeat (first | (with_reducible first | exact HB.out | apply below_alloc | apply pw_below_drewN | apply below_drew1) | exact HB.out)))); have n1_ := Aside0.mk (below_step (by repeat (first | (with_reducible first | exact HB.out | apply below_alloc | apply pw_below_drewN | apply below_drew1) | exact HB.out)) hb); clear HB; have HO225 := n0_; have HB := n1_; clear n0_ n1_; (try clear hb); (try clear hb2); (try clear hk); (try clear hi); (try clear ho0)) | ((with_reducible refine gate_callee (f := 17) rfl ?_); refine goesL_ (some 11) rfl rfl Tryd.func17 (by kernel_rfl) rfl #[.int .i64 39730, .int .i64 2, .int .i64 2821665003] rfl (by (try simp only [List.map_toArray, List.map_cons, List.map_nil]); first | done | rfl | (simp only [List.length_drop, List.length_take]; rfl)) ?_; (with_reducible refine (packet_Whole.calls k 39730 2 2821665003 t227 t228 _ A2.out).mono ?_); rintro e w' ⟨rfl, ⟨nd, rfl⟩⟩; refine ⟨_, rfl, ?_⟩; have hcv7 := own_string (P := Tryd.prog) Tryd.underlying28 Tryd.underlying5 Tryd.underlying9 (Kd.own_of_R HO225.out); have hcv8 := fun m_ : Nat => own_string (P := Tryd.prog) Tryd.underlying28 Tryd.underlying5 Tryd.underlying9 (Kd.own_of_R (Kd.R_drewN HO225.out m_))))
    go_ret
    exact ⟨by first | rfl | (simp [errW_none, errW_some] <;> rfl) | (simp [*, errW_none, errW_some] <;> rfl), by repeat (first | (with_reducible first | exact HB.out | apply below_alloc | apply pw_below_drewN | apply below_drew1) | exact HB.out)⟩
   ·
    rw [if_neg c5] at H
    have c5b0 : ((strOfNums t223).toList == ([64, 97, 98, 2] : List UInt8)) = false := beq_eq_false_iff_ne.mpr c5
    have c5b1 : ((strOfNums t223).toList != ([64, 97, 98, 2] : List UInt8)) = true := bne_iff_ne.mpr c5
    obtain rfl := Option.some.inj H
    go_enter Tryd.func15, Tryd.ntmps15
    go_wp2_with (first | ((with_reducible refine gate_callee (f := 13) rfl ?_); refine goesL_ (some 7) rfl rfl Tryd.func13 (by kernel_rfl) rfl #[.agg #[.int .i64 4, .int .i64 0, .string (⟨#[97, 98]⟩ : ByteArray), .string (⟨#[]⟩ : ByteArray), .string (⟨#[]⟩ : ByteArray), .int .i64 0, .int .i64 258, .int .i64 1, .bool false, .slice none 0 0]] rfl (by (try simp only [List.map_toArray, List.map_cons, List.map_nil]); first | done | rfl | (simp only [List.length_drop, List.length_take]; rfl)) ?_; (refine (packet_Put.calls k 4 0 (⟨#[97, 98]⟩ : ByteArray) (⟨#[]⟩ : ByteArray) (⟨#[]⟩ : ByteArray) 0 258 1 false _ _ ([] : List Int) t223 t226 _ ?side1 ?side2 ?side3 A1.out).mono ?_); (case side1 => exact Kd.C_nil _ _); (case side2 => exact Nat.le_refl _); (case side3 => exact glob_below HG.out (by repeat (first | (with_reducible first | exact HB.out | apply below_alloc | apply pw_below_drewN | apply below_drew1) | exact HB.out))); rintro e w9 ⟨v224, rfl, ho0, hb⟩; refine ⟨_, rfl, ?_⟩; have n0_ := Aside0.mk (Kd.R_lower ho0 (below_size (by repeat (first | (with_reducible first | exact HB.out | apply below_alloc | apply pw_below_drewN | apply below_drew1) | exact HB.out)))); have n1_ := Aside0.mk (below_step (by repeat (first | (with_reducible first | exact HB.out | apply below_alloc | apply pw_below_drewN | apply below_drew1) | exact HB.out)) hb); clear HB; have HO225 := n0_; have HB := n1_; clear n0_ n1_; (try clear hb); (try clear hb2); (try clear hk); (try clear hi); (try clear ho0)) | ((with_reducible refine gate_callee (f := 17) rfl ?_); refine goesL_ (some 11) rfl rfl Tryd.func17 (by kernel_rfl) rfl #[.int .i64 39730, .int .i64 2, .int .i64 2821665003] rfl (by (try simp only [List.map_toArray, List.map_cons, List.map_nil]); first | done | rfl | (simp only [List.length_drop, List.length_take]; rfl)) ?_; (with_reducible refine (packet_Whole.calls k 39730 2 2821665003 t227 t228 _ A2.out).mono ?_); rintro e w' ⟨rfl, ⟨nd, rfl⟩⟩; refine ⟨_, rfl, ?_⟩; have hcv10 := own_string (P := Tryd.prog) Tryd.underlying28 Tryd.underlying5 Tryd.underlying9 (Kd.own_of_R HO225.out); have hcv11 := fun m_ : Nat => own_string (P := Tryd.prog) Tryd.underlying28 Tryd.underlying5 Tryd.underlying9 (Kd.own_of_R (Kd.R_drewN HO225.out m_))))
    go_ret
    exact ⟨by first | rfl | (simp [errW_none, errW_some] <;> rfl) | (simp [*, errW_none, errW_some] <;> rfl), by repeat (first | (with_reducible first | exact HB.out | apply below_alloc | apply pw_below_drewN | apply below_drew1) | exact HB.out)⟩
  ·
   rw [if_neg c4] at H
   have c4b0 : (t228 == 0) = false := beq_eq_false_iff_ne.mpr c4
   have c4b1 : (t228 != 0) = true := bne_iff_ne.mpr c4
   obtain rfl := Option.some.inj H
   go_enter Tryd.func15, Tryd.ntmps15
   go_wp2_with (first | ((with_reducible refine gate_callee (f := 13) rfl ?_); refine goesL_ (some 7) rfl rfl Tryd.func13 (by kernel_rfl) rfl #[.agg #[.int .i64 4, .int .i64 0, .string (⟨#[97, 98]⟩ : ByteArray), .string (⟨#[]⟩ : ByteArray), .string (⟨#[]⟩ : ByteArray), .int .i64 0, .int .i64 258, .int .i64 1, .bool false, .slice none 0 0]] rfl (by (try simp only [List.map_toArray, List.map_cons, List.map_nil]); first | done | rfl | (simp only [List.length_drop, List.length_take]; rfl)) ?_; (refine (packet_Put.calls k 4 0 (⟨#[97, 98]⟩ : ByteArray) (⟨#[]⟩ : ByteArray) (⟨#[]⟩ : ByteArray) 0 258 1 false _ _ ([] : List Int) t223 t226 _ ?side1 ?side2 ?side3 A1.out).mono ?_); (case side1 => exact Kd.C_nil _ _); (case side2 => exact Nat.le_refl _); (case side3 => exact glob_below HG.out (by repeat (first | (with_reducible first | exact HB.out | apply below_alloc | apply pw_below_drewN | apply below_drew1) | exact HB.out))); rintro e w12 ⟨v224, rfl, ho0, hb⟩; refine ⟨_, rfl, ?_⟩; have n0_ := Aside0.mk (Kd.R_lower ho0 (below_size (by repeat (first | (with_reducible first | exact HB.out | apply below_alloc | apply pw_below_drewN | apply below_drew1) | exact HB.out)))); have n1_ := Aside0.mk (below_step (by repeat (first | (with_reducible first | exact HB.out | apply below_alloc | apply pw_below_drewN | apply below_drew1) | exact HB.out)) hb); clear HB; have HO225 := n0_; have HB := n1_; clear n0_ n1_; (try clear hb); (try clear hb2); (try clear hk); (try clear hi); (try clear ho0)) | ((with_reducible refine gate_callee (f := 17) rfl ?_); refine goesL_ (some 11) rfl rfl Tryd.func17 (by kernel_rfl) rfl #[.int .i64 39730, .int .i64 2, .int .i64 2821665003] rfl (by (try simp only [List.map_toArray, List.map_cons, List.map_nil]); first | done | rfl | (simp only [List.length_drop, List.length_take]; rfl)) ?_; (with_reducible refine (packet_Whole.calls k 39730 2 2821665003 t227 t228 _ A2.out).mono ?_); rintro e w' ⟨rfl, ⟨nd, rfl⟩⟩; refine ⟨_, rfl, ?_⟩))
   go_ret
   exact ⟨by first | rfl | (simp [errW_none, errW_some] <;> rfl) | (simp [*, errW_none, errW_some] <;> rfl), by repeat (first | (with_reducible first | exact HB.out | apply below_alloc | apply pw_below_drewN | apply below_drew1) | exact HB.out)⟩
 ·
  rw [if_neg c3] at H
  have c3b0 : (t226 == 0) = false := beq_eq_false_iff_ne.mpr c3
  have c3b1 : (t226 != 0) = true := bne_iff_ne.mpr c3
  obtain rfl := Option.some.inj H
  go_enter Tryd.func15, Tryd.ntmps15
  go_wp2_with (first | ((with_reducible refine gate_callee (f := 13) rfl ?_); refine goesL_ (some 7) rfl rfl Tryd.func13 (by kernel_rfl) rfl #[.agg #[.int .i64 4, .int .i64 0, .string (⟨#[97, 98]⟩ : ByteArray), .string (⟨#[]⟩ : ByteArray), .string (⟨#[]⟩ : ByteArray), .int .i64 0, .int .i64 258, .int .i64 1, .bool false, .slice none 0 0]] rfl (by (try simp only [List.map_toArray, List.map_cons, List.map_nil]); first | done | rfl | (simp only [List.length_drop, List.length_take]; rfl)) ?_; (refine (packet_Put.calls k 4 0 (⟨#[97, 98]⟩ : ByteArray) (⟨#[]⟩ : ByteArray) (⟨#[]⟩ : ByteArray) 0 258 1 false _ _ ([] : List Int) t223 t226 _ ?side1 ?side2 ?side3 A1.out).mono ?_); (case side1 => exact Kd.C_nil _ _); (case side2 => exact Nat.le_refl _); (case side3 => exact glob_below HG.out (by repeat (first | (with_reducible first | exact HB.out | apply below_alloc | apply pw_below_drewN | apply below_drew1) | exact HB.out))); rintro e w13 ⟨v224, rfl, ho0, hb⟩; refine ⟨_, rfl, ?_⟩; have n0_ := Aside0.mk (Kd.R_lower ho0 (below_size (by repeat (first | (with_reducible first | exact HB.out | apply below_alloc | apply pw_below_drewN | apply below_drew1) | exact HB.out)))); have n1_ := Aside0.mk (below_step (by repeat (first | (with_reducible first | exact HB.out | apply below_alloc | apply pw_below_drewN | apply below_drew1) | exact HB.out)) hb); clear HB; have HO225 := n0_; have HB := n1_; clear n0_ n1_; (try clear hb); (try clear hb2); (try clear hk); (try clear hi); (try clear ho0)) | ((with_reducible refine gate_callee (f := 17) rfl ?_); refine goesL_ (some 11) rfl rfl Tryd.func17 (by kernel_rfl) rfl #[.int .i64 39730, .int .i64 2, .int .i64 2821665003] rfl (by (try simp only [List.map_toArray, List.map_cons, List.map_nil]); first | done | rfl | (simp only [List.length_drop, List.length_take]; rfl)) ?_; (with_reducible refine (packet_Whole.calls k 39730 2 2821665003 t227 t228 _ A2.out).mono ?_); rintro e w' ⟨rfl, ⟨nd, rfl⟩⟩; refine ⟨_, rfl, ?_⟩))
  go_ret
  exact ⟨by first | rfl | (simp [errW_none, errW_some] <;> rfl) | (simp [*, errW_none, errW_some] <;> rfl), by repeat (first | (with_reducible first | exact HB.out | apply below_alloc | apply pw_below_drewN | apply below_drew1) | exact HB.out)⟩

/-! ### rhyneref08_word: function 51 -/
def rhyneref08_word.f (a0 : Int) : Option (Bool) := if a0 ≥ 0 then (some (decide (a0 < 4294967296))) else (some false)
set_option maxHeartbeats 8000000 in
set_option maxRecDepth 100000 in
theorem rhyneref08_word.calls (a0 : Int) (r : Bool) (w : World) (h : rhyneref08_word.f a0 = some r) :
  Calls Tryd.prog 51 #[.int .i64 a0] w fun e w' => e = .returned (.bool r) ∧ Drawn0 w w' := by
 have H : (if a0 ≥ 0 then (some (decide (a0 < 4294967296))) else (some false)) = some r := h
 clear h
 by_cases c2 : a0 ≥ 0
 ·
  rw [if_pos c2] at H
  have c2b0 : decide (0 ≤ a0) = true := decide_eq_true c2
  clear c2
  obtain rfl := Option.some.inj H
  go_enter Tryd.func51, Tryd.ntmps51
  go_wp2
  go_ret
  exact ⟨by first | rfl | (simp; done) | (simp [*]; done), by repeat (first | exact Drawn0.refl _ | apply Drawn0.step)⟩
 ·
  rw [if_neg c2] at H
  have c2b0 : decide (0 ≤ a0) = false := decide_eq_false c2
  clear c2
  obtain rfl := Option.some.inj H
  go_enter Tryd.func51, Tryd.ntmps51
  go_wp2
  go_ret
  exact ⟨by first | rfl | (simp; done) | (simp [*]; done), by repeat (first | exact Drawn0.refl _ | apply Drawn0.step)⟩

end Go.Proofs.YthagjeomcgphiaaDoor.X
