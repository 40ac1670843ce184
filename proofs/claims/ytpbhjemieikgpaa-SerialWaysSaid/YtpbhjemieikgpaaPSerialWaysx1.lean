-- PRINTED BY print.sh 35421559b90ae4d0a3588c463048766b98c2df88dd9212a6774a882060cdf62d: not written by this session
import Derived.Test.YtpbhjemieikgpaaPSerialWaysx0
namespace Go.Proofs.Ytpbhjemieikgpaa.PSerialWays
open Go.RowKit Go.Proofs.YtpbhjemieikgpaaW.PrintWords Go.Proofs.YtpbhjemieikgpaaW.PrintLast Go.Proofs.YtpbhjemieikgpaaW.PrintMore
attribute [local go_sem] max2_int min2_int max_two min_two max_three min_three max_four min_four   -- for this text's walks alone
set_option linter.unusedVariables false
set_option linter.unusedSimpArgs false

/-! ### serial_isSerial: function 23 -/
def serial_isSerial.f (a0 : Int) : Option (Bool) := if a0 ≥ 0 then (some (decide (a0 < 4294967296))) else (some false)
set_option maxHeartbeats 8000000 in
set_option maxRecDepth 100000 in
theorem serial_isSerial.calls (a0 : Int) (r : Bool) (w : World) (h : serial_isSerial.f a0 = some r) :
    Calls Try.prog 23 #[.int .i64 a0] w fun e w' => e = .returned (.bool r) ∧ Drawn0 w w' := by
  have H : (if a0 ≥ 0 then (some (decide (a0 < 4294967296))) else (some false)) = some r := h
  clear h
  by_cases c2 : a0 ≥ 0
  · rw [if_pos c2] at H
    have c2b0 : decide (0 ≤ a0) = true := decide_eq_true c2
    clear c2
    obtain rfl := Option.some.inj H
    go_enter Try.func23, Try.ntmps23
    go_wp2
    go_ret
    exact ⟨by first | rfl | (simp; done) | (simp [*]; done), by repeat (first | exact Drawn0.refl _ | apply Drawn0.step)⟩
  · rw [if_neg c2] at H
    have c2b0 : decide (0 ≤ a0) = false := decide_eq_false c2
    clear c2
    obtain rfl := Option.some.inj H
    go_enter Try.func23, Try.ntmps23
    go_wp2
    go_ret
    exact ⟨by first | rfl | (simp; done) | (simp [*]; done), by repeat (first | exact Drawn0.refl _ | apply Drawn0.step)⟩

/-! ### serial_Add: function 8 -/
def serial_Add.f (a0 : Int) (a1 : Int) : Option (Int × Int) := (serial_isSerial.f a0).bind fun t101 => (if t101 = true then (if a1 < 0 then (some (0, 1)) else (if a1 ≥ 2147483648 then (some (0, 1)) else (some ((((a0) % 4294967296) + ((a1) % 4294967296)) % 4294967296, 0)))) else (some (0, 1)))
set_option maxHeartbeats 8000000 in
set_option maxRecDepth 100000 in
theorem serial_Add.calls (a0 : Int) (a1 : Int) (r1 : Int) (r2 : Int) (w : World) (h : serial_Add.f a0 a1 = some (r1, r2)) :
    Calls Try.prog 8 #[.int .i64 a0, .int .i64 a1] w fun e w' => e = .returned (.tuple #[.int .i64 r1, .int .i64 r2]) ∧ Drawn0 w w' := by
  have H : ((serial_isSerial.f a0).bind fun t101 => (if t101 = true then (if a1 < 0 then (some (0, 1)) else (if a1 ≥ 2147483648 then (some (0, 1)) else (some ((((a0) % 4294967296) + ((a1) % 4294967296)) % 4294967296, 0)))) else (some (0, 1)))) = some (r1, r2) := h
  clear h
  replace H := Option.bind_eq_some_iff.mp H
  obtain ⟨t101, A30, H⟩ := H
  replace H : (if t101 = true then (if a1 < 0 then (some (0, 1)) else (if a1 ≥ 2147483648 then (some (0, 1)) else (some ((((a0) % 4294967296) + ((a1) % 4294967296)) % 4294967296, 0)))) else (some (0, 1))) = some (r1, r2) := H
  have A3 := Aside0.mk A30
  clear A30
  by_cases c4 : t101 = true
  · subst c4
    have H1 : (if a1 < 0 then (some (0, 1)) else (if a1 ≥ 2147483648 then (some (0, 1)) else (some ((((a0) % 4294967296) + ((a1) % 4294967296)) % 4294967296, 0)))) = some (r1, r2) := by rw [if_pos rfl] at H; exact H
    clear H
    have H := H1
    clear H1
    by_cases c5 : a1 < 0
    · rw [if_pos c5] at H
      have c5b0 : decide (a1 < 0) = true := decide_eq_true c5
      clear c5
      simp only [Option.some.injEq, Prod.mk.injEq] at H
      obtain ⟨rfl, rfl⟩ := H
      go_enter Try.func8, Try.ntmps8
      go_wp2_with (first | ((with_reducible refine gate_callee (f := 23) rfl ?_); refine goesL_ (some 7) rfl rfl Try.func23 (by kernel_rfl) rfl #[.int .i64 a0] rfl (by (try simp only [List.map_toArray, List.map_cons, List.map_nil]); first | done | rfl | (simp only [List.length_drop, List.length_take]; rfl)) ?_; (with_reducible refine (serial_isSerial.calls a0 true _ A3.out).mono ?_); rintro e w' ⟨rfl, ⟨nd, rfl⟩⟩; refine ⟨_, rfl, ?_⟩))
      go_ret2
      exact ⟨by first | rfl | (simp; done) | (simp [*]; done), by repeat (first | exact Drawn0.refl _ | apply Drawn0.step)⟩
    · rw [if_neg c5] at H
      have c5b0 : decide (a1 < 0) = false := decide_eq_false c5
      clear c5
      by_cases c6 : a1 ≥ 2147483648
      · rw [if_pos c6] at H
        have c6b0 : decide (2147483648 ≤ a1) = true := decide_eq_true c6
        clear c6
        simp only [Option.some.injEq, Prod.mk.injEq] at H
        obtain ⟨rfl, rfl⟩ := H
        go_enter Try.func8, Try.ntmps8
        go_wp2_with (first | ((with_reducible refine gate_callee (f := 23) rfl ?_); refine goesL_ (some 7) rfl rfl Try.func23 (by kernel_rfl) rfl #[.int .i64 a0] rfl (by (try simp only [List.map_toArray, List.map_cons, List.map_nil]); first | done | rfl | (simp only [List.length_drop, List.length_take]; rfl)) ?_; (with_reducible refine (serial_isSerial.calls a0 true _ A3.out).mono ?_); rintro e w' ⟨rfl, ⟨nd, rfl⟩⟩; refine ⟨_, rfl, ?_⟩))
        go_ret2
        exact ⟨by first | rfl | (simp; done) | (simp [*]; done), by repeat (first | exact Drawn0.refl _ | apply Drawn0.step)⟩
      · rw [if_neg c6] at H
        have c6b0 : decide (2147483648 ≤ a1) = false := decide_eq_false c6
        clear c6
        simp only [Option.some.injEq, Prod.mk.injEq] at H
        obtain ⟨rfl, rfl⟩ := H
        go_enter Try.func8, Try.ntmps8
        go_wp2_with (first | ((with_reducible refine gate_callee (f := 23) rfl ?_); refine goesL_ (some 7) rfl rfl Try.func23 (by kernel_rfl) rfl #[.int .i64 a0] rfl (by (try simp only [List.map_toArray, List.map_cons, List.map_nil]); first | done | rfl | (simp only [List.length_drop, List.length_take]; rfl)) ?_; (with_reducible refine (serial_isSerial.calls a0 true _ A3.out).mono ?_); rintro e w' ⟨rfl, ⟨nd, rfl⟩⟩; refine ⟨_, rfl, ?_⟩))
        go_ret2
        exact ⟨by first | rfl | (simp; done) | (simp [*]; done), by repeat (first | exact Drawn0.refl _ | apply Drawn0.step)⟩
  · replace c4 := Bool.eq_false_iff.mpr c4
    subst c4
    have H1 : (some (0, 1)) = some (r1, r2) := by rw [if_neg (show ¬ (false = true) by decide)] at H; exact H
    clear H
    have H := H1
    clear H1
    simp only [Option.some.injEq, Prod.mk.injEq] at H
    obtain ⟨rfl, rfl⟩ := H
    go_enter Try.func8, Try.ntmps8
    go_wp2_with (first | ((with_reducible refine gate_callee (f := 23) rfl ?_); refine goesL_ (some 7) rfl rfl Try.func23 (by kernel_rfl) rfl #[.int .i64 a0] rfl (by (try simp only [List.map_toArray, List.map_cons, List.map_nil]); first | done | rfl | (simp only [List.length_drop, List.length_take]; rfl)) ?_; (with_reducible refine (serial_isSerial.calls a0 false _ A3.out).mono ?_); rintro e w' ⟨rfl, ⟨nd, rfl⟩⟩; refine ⟨_, rfl, ?_⟩))
    go_ret2
    exact ⟨by first | rfl | (simp; done) | (simp [*]; done), by repeat (first | exact Drawn0.refl _ | apply Drawn0.step)⟩

/-! ### serial_Less: function 10 -/
def serial_Less.f (a0 : Int) (a1 : Int) : Option (Bool) := (serial_isSerial.f a0).bind fun t102 => (if t102 = true then ((serial_isSerial.f a1).bind fun t103 => (if t103 = true then (some (decide ((wrap32 ((((a1) % 4294967296) - ((a0) % 4294967296)) % 4294967296)) > 0))) else (some false))) else (some false))
set_option maxHeartbeats 8000000 in
set_option maxRecDepth 100000 in
theorem serial_Less.calls (a0 : Int) (a1 : Int) (r : Bool) (w : World) (h : serial_Less.f a0 a1 = some r) :
    Calls Try.prog 10 #[.int .i64 a0, .int .i64 a1] w fun e w' => e = .returned (.bool r) ∧ Drawn0 w w' := by
  have H : ((serial_isSerial.f a0).bind fun t102 => (if t102 = true then ((serial_isSerial.f a1).bind fun t103 => (if t103 = true then (some (decide ((wrap32 ((((a1) % 4294967296) - ((a0) % 4294967296)) % 4294967296)) > 0))) else (some false))) else (some false))) = some r := h
  clear h
  replace H := Option.bind_eq_some_iff.mp H
  obtain ⟨t102, A30, H⟩ := H
  replace H : (if t102 = true then ((serial_isSerial.f a1).bind fun t103 => (if t103 = true then (some (decide ((wrap32 ((((a1) % 4294967296) - ((a0) % 4294967296)) % 4294967296)) > 0))) else (some false))) else (some false)) = some r := H
  have A3 := Aside0.mk A30
  clear A30
  by_cases c4 : t102 = true
  · subst c4
    have H1 : ((serial_isSerial.f a1).bind fun t103 => (if t103 = true then (some (decide ((wrap32 ((((a1) % 4294967296) - ((a0) % 4294967296)) % 4294967296)) > 0))) else (some false))) = some r := by rw [if_pos rfl] at H; exact H
    clear H
    have H := H1
    clear H1
    replace H := Option.bind_eq_some_iff.mp H
    obtain ⟨t103, A50, H⟩ := H
    replace H : (if t103 = true then (some (decide ((wrap32 ((((a1) % 4294967296) - ((a0) % 4294967296)) % 4294967296)) > 0))) else (some false)) = some r := H
    have A5 := Aside0.mk A50
    clear A50
    by_cases c6 : t103 = true
    · subst c6
      have H1 : (some (decide ((wrap32 ((((a1) % 4294967296) - ((a0) % 4294967296)) % 4294967296)) > 0))) = some r := by rw [if_pos rfl] at H; exact H
      clear H
      have H := H1
      clear H1
      obtain rfl := Option.some.inj H
      go_enter Try.func10, Try.ntmps10
      go_wp2_with (first | ((with_reducible refine gate_callee (f := 23) rfl ?_); refine goesL_ (some 6) rfl rfl Try.func23 (by kernel_rfl) rfl #[.int .i64 a0] rfl (by (try simp only [List.map_toArray, List.map_cons, List.map_nil]); first | done | rfl | (simp only [List.length_drop, List.length_take]; rfl)) ?_; (with_reducible refine (serial_isSerial.calls a0 true _ A3.out).mono ?_); rintro e w' ⟨rfl, ⟨nd, rfl⟩⟩; refine ⟨_, rfl, ?_⟩) | (go_at_call 23; (with_reducible refine (serial_isSerial.calls a1 true _ A5.out).mono ?_); rintro e w' ⟨rfl, ⟨nd, rfl⟩⟩))
      go_ret
      exact ⟨by first | rfl | (simp; done) | (simp [*]; done), by repeat (first | exact Drawn0.refl _ | apply Drawn0.step)⟩
    · replace c6 := Bool.eq_false_iff.mpr c6
      subst c6
      have H1 : (some false) = some r := by rw [if_neg (show ¬ (false = true) by decide)] at H; exact H
      clear H
      have H := H1
      clear H1
      obtain rfl := Option.some.inj H
      go_enter Try.func10, Try.ntmps10
      go_wp2_with (first | ((with_reducible refine gate_callee (f := 23) rfl ?_); refine goesL_ (some 6) rfl rfl Try.func23 (by kernel_rfl) rfl #[.int .i64 a0] rfl (by (try simp only [List.map_toArray, List.map_cons, List.map_nil]); first | done | rfl | (simp only [List.length_drop, List.length_take]; rfl)) ?_; (with_reducible refine (serial_isSerial.calls a0 true _ A3.out).mono ?_); rintro e w' ⟨rfl, ⟨nd, rfl⟩⟩; refine ⟨_, rfl, ?_⟩) | (go_at_call 23; (with_reducible refine (serial_isSerial.calls a1 false _ A5.out).mono ?_); rintro e w' ⟨rfl, ⟨nd, rfl⟩⟩))
      go_ret
      exact ⟨by first | rfl | (simp; done) | (simp [*]; done), by repeat (first | exact Drawn0.refl _ | apply Drawn0.step)⟩
  · replace c4 := Bool.eq_false_iff.mpr c4
    subst c4
    have H1 : (some false) = some r := by rw [if_neg (show ¬ (false = true) by decide)] at H; exact H
    clear H
    have H := H1
    clear H1
    obtain rfl := Option.some.inj H
    go_enter Try.func10, Try.ntmps10
    go_wp2_with (first | ((with_reducible refine gate_callee (f := 23) rfl ?_); refine goesL_ (some 6) rfl rfl Try.func23 (by kernel_rfl) rfl #[.int .i64 a0] rfl (by (try simp only [List.map_toArray, List.map_cons, List.map_nil]); first | done | rfl | (simp only [List.length_drop, List.length_take]; rfl)) ?_; (with_reducible refine (serial_isSerial.calls a0 false _ A3.out).mono ?_); rintro e w' ⟨rfl, ⟨nd, rfl⟩⟩; refine ⟨_, rfl, ?_⟩))
    go_ret
    exact ⟨by first | rfl | (simp; done) | (simp [*]; done), by repeat (first | exact Drawn0.refl _ | apply Drawn0.step)⟩

/-! ### rhynelaw20_rounds: function 9 -/
def rhynelaw20_rounds.f  : Option (Bool) := (serial_Add.f 4294967295 2).bind fun bt104 => ((serial_Less.f 4294967295 0).bind fun t106 => (if t106 = true then ((serial_Less.f 0 2147483648).bind fun t107 => (if t107 = true then (some false) else ((serial_Less.f 2147483648 0).bind fun t108 => (if t108 = true then (some false) else (if bt104.1 = 1 then (some (bt104.2 == 0)) else (some false)))))) else (some false)))
set_option maxHeartbeats 8000000 in
set_option maxRecDepth 100000 in
theorem rhynelaw20_rounds.calls  (r : Bool) (w : World) (h : rhynelaw20_rounds.f  = some r) :
    Calls Try.prog 9 #[] w fun e w' => e = .returned (.bool r) ∧ Drawn0 w w' := by
  have H : ((serial_Add.f 4294967295 2).bind fun bt104 => ((serial_Less.f 4294967295 0).bind fun t106 => (if t106 = true then ((serial_Less.f 0 2147483648).bind fun t107 => (if t107 = true then (some false) else ((serial_Less.f 2147483648 0).bind fun t108 => (if t108 = true then (some false) else (if bt104.1 = 1 then (some (bt104.2 == 0)) else (some false)))))) else (some false)))) = some r := h
  clear h
  replace H := Option.bind_eq_some_iff.mp H
  obtain ⟨⟨t104, t105⟩, A10, H⟩ := H
  replace H : ((serial_Less.f 4294967295 0).bind fun t106 => (if t106 = true then ((serial_Less.f 0 2147483648).bind fun t107 => (if t107 = true then (some false) else ((serial_Less.f 2147483648 0).bind fun t108 => (if t108 = true then (some false) else (if t104 = 1 then (some (t105 == 0)) else (some false)))))) else (some false))) = some r := H
  have A1 := Aside0.mk A10
  clear A10
  replace H := Option.bind_eq_some_iff.mp H
  obtain ⟨t106, A20, H⟩ := H
  replace H : (if t106 = true then ((serial_Less.f 0 2147483648).bind fun t107 => (if t107 = true then (some false) else ((serial_Less.f 2147483648 0).bind fun t108 => (if t108 = true then (some false) else (if t104 = 1 then (some (t105 == 0)) else (some false)))))) else (some false)) = some r := H
  have A2 := Aside0.mk A20
  clear A20
  by_cases c3 : t106 = true
  · subst c3
    have H1 : ((serial_Less.f 0 2147483648).bind fun t107 => (if t107 = true then (some false) else ((serial_Less.f 2147483648 0).bind fun t108 => (if t108 = true then (some false) else (if t104 = 1 then (some (t105 == 0)) else (some false)))))) = some r := by rw [if_pos rfl] at H; exact H
    clear H
    have H := H1
    clear H1
    replace H := Option.bind_eq_some_iff.mp H
    obtain ⟨t107, A40, H⟩ := H
    replace H : (if t107 = true then (some false) else ((serial_Less.f 2147483648 0).bind fun t108 => (if t108 = true then (some false) else (if t104 = 1 then (some (t105 == 0)) else (some false))))) = some r := H
    have A4 := Aside0.mk A40
    clear A40
    by_cases c5 : t107 = true
    · subst c5
      have H1 : (some false) = some r := by rw [if_pos rfl] at H; exact H
      clear H
      have H := H1
      clear H1
      obtain rfl := Option.some.inj H
      go_enter Try.func9, Try.ntmps9
      go_wp2_with (first | ((with_reducible refine gate_callee (f := 8) rfl ?_); refine goesL_ (some 4) rfl rfl Try.func8 (by kernel_rfl) rfl #[.int .i64 4294967295, .int .i64 2] rfl (by (try simp only [List.map_toArray, List.map_cons, List.map_nil]); first | done | rfl | (simp only [List.length_drop, List.length_take]; rfl)) ?_; (with_reducible refine (serial_Add.calls 4294967295 2 t104 t105 _ A1.out).mono ?_); rintro e w' ⟨rfl, ⟨nd, rfl⟩⟩; refine ⟨_, rfl, ?_⟩) | ((with_reducible refine gate_callee (f := 10) rfl ?_); refine goesL_ (some 7) rfl rfl Try.func10 (by kernel_rfl) rfl #[.int .i64 4294967295, .int .i64 0] rfl (by (try simp only [List.map_toArray, List.map_cons, List.map_nil]); first | done | rfl | (simp only [List.length_drop, List.length_take]; rfl)) ?_; (with_reducible refine (serial_Less.calls 4294967295 0 true _ A2.out).mono ?_); rintro e w' ⟨rfl, ⟨nd, rfl⟩⟩; refine ⟨_, rfl, ?_⟩) | (go_at_call 10; (with_reducible refine (serial_Less.calls 0 2147483648 true _ A4.out).mono ?_); rintro e w' ⟨rfl, ⟨nd, rfl⟩⟩))
      go_ret
      exact ⟨by first | rfl | (simp; done) | (simp [*]; done), by repeat (first | exact Drawn0.refl _ | apply Drawn0.step)⟩
    · replace c5 := Bool.eq_false_iff.mpr c5
      subst c5
      have H1 : ((serial_Less.f 2147483648 0).bind fun t108 => (if t108 = true then (some false) else (if t104 = 1 then (some (t105 == 0)) else (some false)))) = some r := by rw [if_neg (show ¬ (false = true) by decide)] at H; exact H
      clear H
      have H := H1
      clear H1
      replace H := Option.bind_eq_some_iff.mp H
      obtain ⟨t108, A60, H⟩ := H
      replace H : (if t108 = true then (some false) else (if t104 = 1 then (some (t105 == 0)) else (some false))) = some r := H
      have A6 := Aside0.mk A60
      clear A60
      by_cases c7 : t108 = true
      · subst c7
        have H1 : (some false) = some r := by rw [if_pos rfl] at H; exact H
        clear H
        have H := H1
        clear H1
        obtain rfl := Option.some.inj H
        go_enter Try.func9, Try.ntmps9
        go_wp2_with (first | ((with_reducible refine gate_callee (f := 8) rfl ?_); refine goesL_ (some 4) rfl rfl Try.func8 (by kernel_rfl) rfl #[.int .i64 4294967295, .int .i64 2] rfl (by (try simp only [List.map_toArray, List.map_cons, List.map_nil]); first | done | rfl | (simp only [List.length_drop, List.length_take]; rfl)) ?_; (with_reducible refine (serial_Add.calls 4294967295 2 t104 t105 _ A1.out).mono ?_); rintro e w' ⟨rfl, ⟨nd, rfl⟩⟩; refine ⟨_, rfl, ?_⟩) | ((with_reducible refine gate_callee (f := 10) rfl ?_); refine goesL_ (some 7) rfl rfl Try.func10 (by kernel_rfl) rfl #[.int .i64 4294967295, .int .i64 0] rfl (by (try simp only [List.map_toArray, List.map_cons, List.map_nil]); first | done | rfl | (simp only [List.length_drop, List.length_take]; rfl)) ?_; (with_reducible refine (serial_Less.calls 4294967295 0 true _ A2.out).mono ?_); rintro e w' ⟨rfl, ⟨nd, rfl⟩⟩; refine ⟨_, rfl, ?_⟩) | (go_at_call 10; (with_reducible refine (serial_Less.calls 0 2147483648 false _ A4.out).mono ?_); rintro e w' ⟨rfl, ⟨nd, rfl⟩⟩) | (go_at_call 10; (with_reducible refine (serial_Less.calls 2147483648 0 true _ A6.out).mono ?_); rintro e w' ⟨rfl, ⟨nd, rfl⟩⟩))
        go_ret
        exact ⟨by first | rfl | (simp; done) | (simp [*]; done), by repeat (first | exact Drawn0.refl _ | apply Drawn0.step)⟩
      · replace c7 := Bool.eq_false_iff.mpr c7
        subst c7
        have H1 : (if t104 = 1 then (some (t105 == 0)) else (some false)) = some r := by rw [if_neg (show ¬ (false = true) by decide)] at H; exact H
        clear H
        have H := H1
        clear H1
        by_cases c8 : t104 = 1
        · rw [if_pos c8] at H
          have c8b0 : (t104 == 1) = true := beq_iff_eq.mpr c8
          have c8b1 : (t104 != 1) = false := bne_eq_false_iff_eq.mpr c8
          clear c8
          obtain rfl := Option.some.inj H
          go_enter Try.func9, Try.ntmps9
          go_wp2_with (first | ((with_reducible refine gate_callee (f := 8) rfl ?_); refine goesL_ (some 4) rfl rfl Try.func8 (by kernel_rfl) rfl #[.int .i64 4294967295, .int .i64 2] rfl (by (try simp only [List.map_toArray, List.map_cons, List.map_nil]); first | done | rfl | (simp only [List.length_drop, List.length_take]; rfl)) ?_; (with_reducible refine (serial_Add.calls 4294967295 2 t104 t105 _ A1.out).mono ?_); rintro e w' ⟨rfl, ⟨nd, rfl⟩⟩; refine ⟨_, rfl, ?_⟩) | ((with_reducible refine gate_callee (f := 10) rfl ?_); refine goesL_ (some 7) rfl rfl Try.func10 (by kernel_rfl) rfl #[.int .i64 4294967295, .int .i64 0] rfl (by (try simp only [List.map_toArray, List.map_cons, List.map_nil]); first | done | rfl | (simp only [List.length_drop, List.length_take]; rfl)) ?_; (with_reducible refine (serial_Less.calls 4294967295 0 true _ A2.out).mono ?_); rintro e w' ⟨rfl, ⟨nd, rfl⟩⟩; refine ⟨_, rfl, ?_⟩) | (go_at_call 10; (with_reducible refine (serial_Less.calls 0 2147483648 false _ A4.out).mono ?_); rintro e w' ⟨rfl, ⟨nd, rfl⟩⟩) | (go_at_call 10; (with_reducible refine (serial_Less.calls 2147483648 0 false _ A6.out).mono ?_); rintro e w' ⟨rfl, ⟨nd, rfl⟩⟩))
          go_ret
          exact ⟨by first | rfl | (simp; done) | (simp [*]; done), by repeat (first | exact Drawn0.refl _ | apply Drawn0.step)⟩
        · rw [if_neg c8] at H
          have c8b0 : (t104 == 1) = false := beq_eq_false_iff_ne.mpr c8
          have c8b1 : (t104 != 1) = true := bne_iff_ne.mpr c8
          obtain rfl := Option.some.inj H
          go_enter Try.func9, Try.ntmps9
          go_wp2_with (first | ((with_reducible refine gate_callee (f := 8) rfl ?_); refine goesL_ (some 4) rfl rfl Try.func8 (by kernel_rfl) rfl #[.int .i64 4294967295, .int .i64 2] rfl (by (try simp only [List.map_toArray, List.map_cons, List.map_nil]); first | done | rfl | (simp only [List.length_drop, List.length_take]; rfl)) ?_; (with_reducible refine (serial_Add.calls 4294967295 2 t104 t105 _ A1.out).mono ?_); rintro e w' ⟨rfl, ⟨nd, rfl⟩⟩; refine ⟨_, rfl, ?_⟩) | ((with_reducible refine gate_callee (f := 10) rfl ?_); refine goesL_ (some 7) rfl rfl Try.func10 (by kernel_rfl) rfl #[.int .i64 4294967295, .int .i64 0] rfl (by (try simp only [List.map_toArray, List.map_cons, List.map_nil]); first | done | rfl | (simp only [List.length_drop, List.length_take]; rfl)) ?_; (with_reducible refine (serial_Less.calls 4294967295 0 true _ A2.out).mono ?_); rintro e w' ⟨rfl, ⟨nd, rfl⟩⟩; refine ⟨_, rfl, ?_⟩) | (go_at_call 10; (with_reducible refine (serial_Less.calls 0 2147483648 false _ A4.out).mono ?_); rintro e w' ⟨rfl, ⟨nd, rfl⟩⟩) | (go_at_call 10; (with_reducible refine (serial_Less.calls 2147483648 0 false _ A6.out).mono ?_); rintro e w' ⟨rfl, ⟨nd, rfl⟩⟩))
          go_ret
          exact ⟨by first | rfl | (simp; done) | (simp [*]; done), by repeat (first | exact Drawn0.refl _ | apply Drawn0.step)⟩
  · replace c3 := Bool.eq_false_iff.mpr c3
    subst c3
    have H1 : (some false) = some r := by rw [if_neg (show ¬ (false = true) by decide)] at H; exact H
    clear H
    have H := H1
    clear H1
    obtain rfl := Option.some.inj H
    go_enter Try.func9, Try.ntmps9
    go_wp2_with (first | ((with_reducible refine gate_callee (f := 8) rfl ?_); refine goesL_ (some 4) rfl rfl Try.func8 (by kernel_rfl) rfl #[.int .i64 4294967295, .int .i64 2] rfl (by (try simp only [List.map_toArray, List.map_cons, List.map_nil]); first | done | rfl | (simp only [List.length_drop, List.length_take]; rfl)) ?_; (with_reducible refine (serial_Add.calls 4294967295 2 t104 t105 _ A1.out).mono ?_); rintro e w' ⟨rfl, ⟨nd, rfl⟩⟩; refine ⟨_, rfl, ?_⟩) | ((with_reducible refine gate_callee (f := 10) rfl ?_); refine goesL_ (some 7) rfl rfl Try.func10 (by kernel_rfl) rfl #[.int .i64 4294967295, .int .i64 0] rfl (by (try simp only [List.map_toArray, List.map_cons, List.map_nil]); first | done | rfl | (simp only [List.length_drop, List.length_take]; rfl)) ?_; (with_reducible refine (serial_Less.calls 4294967295 0 false _ A2.out).mono ?_); rintro e w' ⟨rfl, ⟨nd, rfl⟩⟩; refine ⟨_, rfl, ?_⟩))
    go_ret
    exact ⟨by first | rfl | (simp; done) | (simp [*]; done), by repeat (first | exact Drawn0.refl _ | apply Drawn0.step)⟩

/-! ### rhynelaw20_SerialWays: function 4 -/
mutual
def rhynelaw20_SerialWays.j0 : Nat → Int → Int → Int → Int → Int → Int → Int → Bool → Option (Bool)
  | 0, _, _, _, _, _, _, _, _ => none
  | k + 1, x0, x1, x2, x7, x9, x13, x15, x85 => if x85 = true then (some false) else ((serial_Less.f x0 x7).bind fun t120 => (if (t120 != (decide (x1 > 0))) = true then (rhynelaw20_SerialWays.j1 k x0 x13 x15 true) else ((serial_Less.f x7 x9).bind fun t121 => (if (t121 != (decide (x2 > 0))) = true then (rhynelaw20_SerialWays.j1 k x0 x13 x15 true) else ((serial_Less.f x0 x9).bind fun t122 => (rhynelaw20_SerialWays.j1 k x0 x13 x15 (t122 != (decide ((wrap64 (x1 + x2)) > 0)))))))))
def rhynelaw20_SerialWays.j1 : Nat → Int → Int → Int → Bool → Option (Bool)
  | 0, _, _, _, _ => none
  | k + 1, x0, x13, x15, x109 => if x109 = true then (some false) else ((serial_Less.f x0 x15).bind fun t123 => (if t123 = true then (some false) else ((serial_Less.f x15 x0).bind fun t124 => (if t124 = true then (some false) else (if x15 = x0 then (some false) else ((serial_Less.f x0 x13).bind fun t125 => (some t125)))))))
end
def rhynelaw20_SerialWays.f (k : Nat) (a0 : Int) (a1 : Int) (a2 : Int) : Option (Bool) := (serial_Add.f (wrap64 (Int.tmod (IntKind.u64.wrap (a0)) 4294967296)) (wrap64 (Int.tmod (IntKind.u64.wrap (a1)) 1073741824))).bind fun bt109 => ((serial_Add.f bt109.1 (wrap64 (Int.tmod (IntKind.u64.wrap (a2)) 1073741824))).bind fun bt111 => ((serial_Add.f (wrap64 (Int.tmod (IntKind.u64.wrap (a0)) 4294967296)) (wrap64 ((wrap64 (Int.tmod (IntKind.u64.wrap (a1)) 1073741824)) + (wrap64 (Int.tmod (IntKind.u64.wrap (a2)) 1073741824))))).bind fun bt113 => ((serial_Add.f (wrap64 (Int.tmod (IntKind.u64.wrap (a0)) 4294967296)) 2147483647).bind fun bt115 => ((serial_Add.f bt115.1 1).bind fun bt117 => ((rhynelaw20_rounds.f).bind fun t119 => (if t119 = true then (if bt109.2 = 0 then (if bt111.2 = 0 then (if bt113.2 = 0 then (if bt115.2 = 0 then (if bt117.2 = 0 then (rhynelaw20_SerialWays.j0 k (wrap64 (Int.tmod (IntKind.u64.wrap (a0)) 4294967296)) (wrap64 (Int.tmod (IntKind.u64.wrap (a1)) 1073741824)) (wrap64 (Int.tmod (IntKind.u64.wrap (a2)) 1073741824)) bt109.1 bt111.1 bt115.1 bt117.1 (bt111.1 != bt113.1)) else (rhynelaw20_SerialWays.j0 k (wrap64 (Int.tmod (IntKind.u64.wrap (a0)) 4294967296)) (wrap64 (Int.tmod (IntKind.u64.wrap (a1)) 1073741824)) (wrap64 (Int.tmod (IntKind.u64.wrap (a2)) 1073741824)) bt109.1 bt111.1 bt115.1 bt117.1 true)) else (rhynelaw20_SerialWays.j0 k (wrap64 (Int.tmod (IntKind.u64.wrap (a0)) 4294967296)) (wrap64 (Int.tmod (IntKind.u64.wrap (a1)) 1073741824)) (wrap64 (Int.tmod (IntKind.u64.wrap (a2)) 1073741824)) bt109.1 bt111.1 bt115.1 bt117.1 true)) else (rhynelaw20_SerialWays.j0 k (wrap64 (Int.tmod (IntKind.u64.wrap (a0)) 4294967296)) (wrap64 (Int.tmod (IntKind.u64.wrap (a1)) 1073741824)) (wrap64 (Int.tmod (IntKind.u64.wrap (a2)) 1073741824)) bt109.1 bt111.1 bt115.1 bt117.1 true)) else (rhynelaw20_SerialWays.j0 k (wrap64 (Int.tmod (IntKind.u64.wrap (a0)) 4294967296)) (wrap64 (Int.tmod (IntKind.u64.wrap (a1)) 1073741824)) (wrap64 (Int.tmod (IntKind.u64.wrap (a2)) 1073741824)) bt109.1 bt111.1 bt115.1 bt117.1 true)) else (rhynelaw20_SerialWays.j0 k (wrap64 (Int.tmod (IntKind.u64.wrap (a0)) 4294967296)) (wrap64 (Int.tmod (IntKind.u64.wrap (a1)) 1073741824)) (wrap64 (Int.tmod (IntKind.u64.wrap (a2)) 1073741824)) bt109.1 bt111.1 bt115.1 bt117.1 true)) else (rhynelaw20_SerialWays.j0 k (wrap64 (Int.tmod (IntKind.u64.wrap (a0)) 4294967296)) (wrap64 (Int.tmod (IntKind.u64.wrap (a1)) 1073741824)) (wrap64 (Int.tmod (IntKind.u64.wrap (a2)) 1073741824)) bt109.1 bt111.1 bt115.1 bt117.1 true)))))))
theorem rhynelaw20_SerialWays.mono_l : ∀ k, (∀ y0 y1 y2 y3 y4 y5 y6 y7, LeO (rhynelaw20_SerialWays.j0 k y0 y1 y2 y3 y4 y5 y6 y7) (rhynelaw20_SerialWays.j0 (k + 1) y0 y1 y2 y3 y4 y5 y6 y7)) ∧ (∀ y0 y1 y2 y3, LeO (rhynelaw20_SerialWays.j1 k y0 y1 y2 y3) (rhynelaw20_SerialWays.j1 (k + 1) y0 y1 y2 y3))
  | 0 => ⟨fun _ _ _ _ _ _ _ _ r h => by simp [rhynelaw20_SerialWays.j0] at h, fun _ _ _ _ r h => by simp [rhynelaw20_SerialWays.j1] at h⟩
  | k + 1 => by
    obtain ⟨ih0, ih1⟩ := rhynelaw20_SerialWays.mono_l k
    refine ⟨?_, ?_⟩
    · intro y0 y1 y2 y3 y4 y5 y6 y7
      unfold rhynelaw20_SerialWays.j0
      repeat' first
      | (with_reducible exact ih0 _ _ _ _ _ _ _ _)
      | (with_reducible exact ih1 _ _ _ _)
      | (with_reducible exact LeO.refl _)
      | (with_reducible exact LeO.none _)
      | (with_reducible refine LeO.ite ?_ ?_)
      | (with_reducible refine LeO.bind ?_ (fun _ => ?_))
      | exact ih0 _ _ _ _ _ _ _ _
      | exact ih1 _ _ _ _
      | exact LeO.none _
      | refine LeO.ite ?_ ?_
      | refine LeO.bind ?_ (fun _ => ?_)
    · intro y0 y1 y2 y3
      unfold rhynelaw20_SerialWays.j1
      repeat' first
      | (with_reducible exact ih0 _ _ _ _ _ _ _ _)
      | (with_reducible exact ih1 _ _ _ _)
      | (with_reducible exact LeO.refl _)
      | (with_reducible exact LeO.none _)
      | (with_reducible refine LeO.ite ?_ ?_)
      | (with_reducible refine LeO.bind ?_ (fun _ => ?_))
      | exact ih0 _ _ _ _ _ _ _ _
      | exact ih1 _ _ _ _
      | exact LeO.none _
      | refine LeO.ite ?_ ?_
      | refine LeO.bind ?_ (fun _ => ?_)
theorem rhynelaw20_SerialWays.mono : ∀ a0 a1 a2 k, LeO (rhynelaw20_SerialWays.f k a0 a1 a2) (rhynelaw20_SerialWays.f (k + 1) a0 a1 a2) := by
  intro a0 a1 a2 k
  obtain ⟨ih0, ih1⟩ := rhynelaw20_SerialWays.mono_l k
  unfold rhynelaw20_SerialWays.f
  repeat' first
      | (with_reducible exact ih0 _ _ _ _ _ _ _ _)
      | (with_reducible exact ih1 _ _ _ _)
      | (with_reducible exact LeO.refl _)
      | (with_reducible exact LeO.none _)
      | (with_reducible refine LeO.ite ?_ ?_)
      | (with_reducible refine LeO.bind ?_ (fun _ => ?_))
      | exact ih0 _ _ _ _ _ _ _ _
      | exact ih1 _ _ _ _
      | exact LeO.none _
      | refine LeO.ite ?_ ?_
      | refine LeO.bind ?_ (fun _ => ?_)
set_option maxHeartbeats 8000000 in
set_option maxRecDepth 100000 in
theorem rhynelaw20_SerialWays.calls (k : Nat) (a0 : Int) (a1 : Int) (a2 : Int) (r : Bool) (w : World) (h : rhynelaw20_SerialWays.f k a0 a1 a2 = some r) :
    Calls Try.prog 4 #[.int .i64 a0, .int .i64 a1, .int .i64 a2] w fun e w' => e = .returned (.bool r) ∧ Drawn0 w w' := by
  have H : ((serial_Add.f (wrap64 (Int.tmod (IntKind.u64.wrap (a0)) 4294967296)) (wrap64 (Int.tmod (IntKind.u64.wrap (a1)) 1073741824))).bind fun bt109 => ((serial_Add.f bt109.1 (wrap64 (Int.tmod (IntKind.u64.wrap (a2)) 1073741824))).bind fun bt111 => ((serial_Add.f (wrap64 (Int.tmod (IntKind.u64.wrap (a0)) 4294967296)) (wrap64 ((wrap64 (Int.tmod (IntKind.u64.wrap (a1)) 1073741824)) + (wrap64 (Int.tmod (IntKind.u64.wrap (a2)) 1073741824))))).bind fun bt113 => ((serial_Add.f (wrap64 (Int.tmod (IntKind.u64.wrap (a0)) 4294967296)) 2147483647).bind fun bt115 => ((serial_Add.f bt115.1 1).bind fun bt117 => ((rhynelaw20_rounds.f).bind fun t119 => (if t119 = true then (if bt109.2 = 0 then (if bt111.2 = 0 then (if bt113.2 = 0 then (if bt115.2 = 0 then (if bt117.2 = 0 then (rhynelaw20_SerialWays.j0 k (wrap64 (Int.tmod (IntKind.u64.wrap (a0)) 4294967296)) (wrap64 (Int.tmod (IntKind.u64.wrap (a1)) 1073741824)) (wrap64 (Int.tmod (IntKind.u64.wrap (a2)) 1073741824)) bt109.1 bt111.1 bt115.1 bt117.1 (bt111.1 != bt113.1)) else (rhynelaw20_SerialWays.j0 k (wrap64 (Int.tmod (IntKind.u64.wrap (a0)) 4294967296)) (wrap64 (Int.tmod (IntKind.u64.wrap (a1)) 1073741824)) (wrap64 (Int.tmod (IntKind.u64.wrap (a2)) 1073741824)) bt109.1 bt111.1 bt115.1 bt117.1 true)) else (rhynelaw20_SerialWays.j0 k (wrap64 (Int.tmod (IntKind.u64.wrap (a0)) 4294967296)) (wrap64 (Int.tmod (IntKind.u64.wrap (a1)) 1073741824)) (wrap64 (Int.tmod (IntKind.u64.wrap (a2)) 1073741824)) bt109.1 bt111.1 bt115.1 bt117.1 true)) else (rhynelaw20_SerialWays.j0 k (wrap64 (Int.tmod (IntKind.u64.wrap (a0)) 4294967296)) (wrap64 (Int.tmod (IntKind.u64.wrap (a1)) 1073741824)) (wrap64 (Int.tmod (IntKind.u64.wrap (a2)) 1073741824)) bt109.1 bt111.1 bt115.1 bt117.1 true)) else (rhynelaw20_SerialWays.j0 k (wrap64 (Int.tmod (IntKind.u64.wrap (a0)) 4294967296)) (wrap64 (Int.tmod (IntKind.u64.wrap (a1)) 1073741824)) (wrap64 (Int.tmod (IntKind.u64.wrap (a2)) 1073741824)) bt109.1 bt111.1 bt115.1 bt117.1 true)) else (rhynelaw20_SerialWays.j0 k (wrap64 (Int.tmod (IntKind.u64.wrap (a0)) 4294967296)) (wrap64 (Int.tmod (IntKind.u64.wrap (a1)) 1073741824)) (wrap64 (Int.tmod (IntKind.u64.wrap (a2)) 1073741824)) bt109.1 bt111.1 bt115.1 bt117.1 true)) else (rhynelaw20_SerialWays.j0 k (wrap64 (Int.tmod (IntKind.u64.wrap (a0)) 4294967296)) (wrap64 (Int.tmod (IntKind.u64.wrap (a1)) 1073741824)) (wrap64 (Int.tmod (IntKind.u64.wrap (a2)) 1073741824)) bt109.1 bt111.1 bt115.1 bt117.1 true)))))))) = some r := h
  clear h
  replace H := Option.bind_eq_some_iff.mp H
  obtain ⟨⟨t109, t110⟩, A40, H⟩ := H
  replace H : ((serial_Add.f t109 (wrap64 (Int.tmod (IntKind.u64.wrap (a2)) 1073741824))).bind fun bt111 => ((serial_Add.f (wrap64 (Int.tmod (IntKind.u64.wrap (a0)) 4294967296)) (wrap64 ((wrap64 (Int.tmod (IntKind.u64.wrap (a1)) 1073741824)) + (wrap64 (Int.tmod (IntKind.u64.wrap (a2)) 1073741824))))).bind fun bt113 => ((serial_Add.f (wrap64 (Int.tmod (IntKind.u64.wrap (a0)) 4294967296)) 2147483647).bind fun bt115 => ((serial_Add.f bt115.1 1).bind fun bt117 => ((rhynelaw20_rounds.f).bind fun t119 => (if t119 = true then (if t110 = 0 then (if bt111.2 = 0 then (if bt113.2 = 0 then (if bt115.2 = 0 then (if bt117.2 = 0 then (rhynelaw20_SerialWays.j0 k (wrap64 (Int.tmod (IntKind.u64.wrap (a0)) 4294967296)) (wrap64 (Int.tmod (IntKind.u64.wrap (a1)) 1073741824)) (wrap64 (Int.tmod (IntKind.u64.wrap (a2)) 1073741824)) t109 bt111.1 bt115.1 bt117.1 (bt111.1 != bt113.1)) else (rhynelaw20_SerialWays.j0 k (wrap64 (Int.tmod (IntKind.u64.wrap (a0)) 4294967296)) (wrap64 (Int.tmod (IntKind.u64.wrap (a1)) 1073741824)) (wrap64 (Int.tmod (IntKind.u64.wrap (a2)) 1073741824)) t109 bt111.1 bt115.1 bt117.1 true)) else (rhynelaw20_SerialWays.j0 k (wrap64 (Int.tmod (IntKind.u64.wrap (a0)) 4294967296)) (wrap64 (Int.tmod (IntKind.u64.wrap (a1)) 1073741824)) (wrap64 (Int.tmod (IntKind.u64.wrap (a2)) 1073741824)) t109 bt111.1 bt115.1 bt117.1 true)) else (rhynelaw20_SerialWays.j0 k (wrap64 (Int.tmod (IntKind.u64.wrap (a0)) 4294967296)) (wrap64 (Int.tmod (IntKind.u64.wrap (a1)) 1073741824)) (wrap64 (Int.tmod (IntKind.u64.wrap (a2)) 1073741824)) t109 bt111.1 bt115.1 bt117.1 true)) else (rhynelaw20_SerialWays.j0 k (wrap64 (Int.tmod (IntKind.u64.wrap (a0)) 4294967296)) (wrap64 (Int.tmod (IntKind.u64.wrap (a1)) 1073741824)) (wrap64 (Int.tmod (IntKind.u64.wrap (a2)) 1073741824)) t109 bt111.1 bt115.1 bt117.1 true)) else (rhynelaw20_SerialWays.j0 k (wrap64 (Int.tmod (IntKind.u64.wrap (a0)) 4294967296)) (wrap64 (Int.tmod (IntKind.u64.wrap (a1)) 1073741824)) (wrap64 (Int.tmod (IntKind.u64.wrap (a2)) 1073741824)) t109 bt111.1 bt115.1 bt117.1 true)) else (rhynelaw20_SerialWays.j0 k (wrap64 (Int.tmod (IntKind.u64.wrap (a0)) 4294967296)) (wrap64 (Int.tmod (IntKind.u64.wrap (a1)) 1073741824)) (wrap64 (Int.tmod (IntKind.u64.wrap (a2)) 1073741824)) t109 bt111.1 bt115.1 bt117.1 true))))))) = some r := H
  have A4 := Aside0.mk A40
  clear A40
  replace H := Option.bind_eq_some_iff.mp H
  obtain ⟨⟨t111, t112⟩, A50, H⟩ := H
  replace H : ((serial_Add.f (wrap64 (Int.tmod (IntKind.u64.wrap (a0)) 4294967296)) (wrap64 ((wrap64 (Int.tmod (IntKind.u64.wrap (a1)) 1073741824)) + (wrap64 (Int.tmod (IntKind.u64.wrap (a2)) 1073741824))))).bind fun bt113 => ((serial_Add.f (wrap64 (Int.tmod (IntKind.u64.wrap (a0)) 4294967296)) 2147483647).bind fun bt115 => ((serial_Add.f bt115.1 1).bind fun bt117 => ((rhynelaw20_rounds.f).bind fun t119 => (if t119 = true then (if t110 = 0 then (if t112 = 0 then (if bt113.2 = 0 then (if bt115.2 = 0 then (if bt117.2 = 0 then (rhynelaw20_SerialWays.j0 k (wrap64 (Int.tmod (IntKind.u64.wrap (a0)) 4294967296)) (wrap64 (Int.tmod (IntKind.u64.wrap (a1)) 1073741824)) (wrap64 (Int.tmod (IntKind.u64.wrap (a2)) 1073741824)) t109 t111 bt115.1 bt117.1 (t111 != bt113.1)) else (rhynelaw20_SerialWays.j0 k (wrap64 (Int.tmod (IntKind.u64.wrap (a0)) 4294967296)) (wrap64 (Int.tmod (IntKind.u64.wrap (a1)) 1073741824)) (wrap64 (Int.tmod (IntKind.u64.wrap (a2)) 1073741824)) t109 t111 bt115.1 bt117.1 true)) else (rhynelaw20_SerialWays.j0 k (wrap64 (Int.tmod (IntKind.u64.wrap (a0)) 4294967296)) (wrap64 (Int.tmod (IntKind.u64.wrap (a1)) 1073741824)) (wrap64 (Int.tmod (IntKind.u64.wrap (a2)) 1073741824)) t109 t111 bt115.1 bt117.1 true)) else (rhynelaw20_SerialWays.j0 k (wrap64 (Int.tmod (IntKind.u64.wrap (a0)) 4294967296)) (wrap64 (Int.tmod (IntKind.u64.wrap (a1)) 1073741824)) (wrap64 (Int.tmod (IntKind.u64.wrap (a2)) 1073741824)) t109 t111 bt115.1 bt117.1 true)) else (rhynelaw20_SerialWays.j0 k (wrap64 (Int.tmod (IntKind.u64.wrap (a0)) 4294967296)) (wrap64 (Int.tmod (IntKind.u64.wrap (a1)) 1073741824)) (wrap64 (Int.tmod (IntKind.u64.wrap (a2)) 1073741824)) t109 t111 bt115.1 bt117.1 true)) else (rhynelaw20_SerialWays.j0 k (wrap64 (Int.tmod (IntKind.u64.wrap (a0)) 4294967296)) (wrap64 (Int.tmod (IntKind.u64.wrap (a1)) 1073741824)) (wrap64 (Int.tmod (IntKind.u64.wrap (a2)) 1073741824)) t109 t111 bt115.1 bt117.1 true)) else (rhynelaw20_SerialWays.j0 k (wrap64 (Int.tmod (IntKind.u64.wrap (a0)) 4294967296)) (wrap64 (Int.tmod (IntKind.u64.wrap (a1)) 1073741824)) (wrap64 (Int.tmod (IntKind.u64.wrap (a2)) 1073741824)) t109 t111 bt115.1 bt117.1 true)))))) = some r := H
  have A5 := Aside0.mk A50
  clear A50
  replace H := Option.bind_eq_some_iff.mp H
  obtain ⟨⟨t113, t114⟩, A60, H⟩ := H
  replace H : ((serial_Add.f (wrap64 (Int.tmod (IntKind.u64.wrap (a0)) 4294967296)) 2147483647).bind fun bt115 => ((serial_Add.f bt115.1 1).bind fun bt117 => ((rhynelaw20_rounds.f).bind fun t119 => (if t119 = true then (if t110 = 0 then (if t112 = 0 then (if t114 = 0 then (if bt115.2 = 0 then (if bt117.2 = 0 then (rhynelaw20_SerialWays.j0 k (wrap64 (Int.tmod (IntKind.u64.wrap (a0)) 4294967296)) (wrap64 (Int.tmod (IntKind.u64.wrap (a1)) 1073741824)) (wrap64 (Int.tmod (IntKind.u64.wrap (a2)) 1073741824)) t109 t111 bt115.1 bt117.1 (t111 != t113)) else (rhynelaw20_SerialWays.j0 k (wrap64 (Int.tmod (IntKind.u64.wrap (a0)) 4294967296)) (wrap64 (Int.tmod (IntKind.u64.wrap (a1)) 1073741824)) (wrap64 (Int.tmod (IntKind.u64.wrap (a2)) 1073741824)) t109 t111 bt115.1 bt117.1 true)) else (rhynelaw20_SerialWays.j0 k (wrap64 (Int.tmod (IntKind.u64.wrap (a0)) 4294967296)) (wrap64 (Int.tmod (IntKind.u64.wrap (a1)) 1073741824)) (wrap64 (Int.tmod (IntKind.u64.wrap (a2)) 1073741824)) t109 t111 bt115.1 bt117.1 true)) else (rhynelaw20_SerialWays.j0 k (wrap64 (Int.tmod (IntKind.u64.wrap (a0)) 4294967296)) (wrap64 (Int.tmod (IntKind.u64.wrap (a1)) 1073741824)) (wrap64 (Int.tmod (IntKind.u64.wrap (a2)) 1073741824)) t109 t111 bt115.1 bt117.1 true)) else (rhynelaw20_SerialWays.j0 k (wrap64 (Int.tmod (IntKind.u64.wrap (a0)) 4294967296)) (wrap64 (Int.tmod (IntKind.u64.wrap (a1)) 1073741824)) (wrap64 (Int.tmod (IntKind.u64.wrap (a2)) 1073741824)) t109 t111 bt115.1 bt117.1 true)) else (rhynelaw20_SerialWays.j0 k (wrap64 (Int.tmod (IntKind.u64.wrap (a0)) 4294967296)) (wrap64 (Int.tmod (IntKind.u64.wrap (a1)) 1073741824)) (wrap64 (Int.tmod (IntKind.u64.wrap (a2)) 1073741824)) t109 t111 bt115.1 bt117.1 true)) else (rhynelaw20_SerialWays.j0 k (wrap64 (Int.tmod (IntKind.u64.wrap (a0)) 4294967296)) (wrap64 (Int.tmod (IntKind.u64.wrap (a1)) 1073741824)) (wrap64 (Int.tmod (IntKind.u64.wrap (a2)) 1073741824)) t109 t111 bt115.1 bt117.1 true))))) = some r := H
  have A6 := Aside0.mk A60
  clear A60
  replace H := Option.bind_eq_some_iff.mp H
  obtain ⟨⟨t115, t116⟩, A70, H⟩ := H
  replace H : ((serial_Add.f t115 1).bind fun bt117 => ((rhynelaw20_rounds.f).bind fun t119 => (if t119 = true then (if t110 = 0 then (if t112 = 0 then (if t114 = 0 then (if t116 = 0 then (if bt117.2 = 0 then (rhynelaw20_SerialWays.j0 k (wrap64 (Int.tmod (IntKind.u64.wrap (a0)) 4294967296)) (wrap64 (Int.tmod (IntKind.u64.wrap (a1)) 1073741824)) (wrap64 (Int.tmod (IntKind.u64.wrap (a2)) 1073741824)) t109 t111 t115 bt117.1 (t111 != t113)) else (rhynelaw20_SerialWays.j0 k (wrap64 (Int.tmod (IntKind.u64.wrap (a0)) 4294967296)) (wrap64 (Int.tmod (IntKind.u64.wrap (a1)) 1073741824)) (wrap64 (Int.tmod (IntKind.u64.wrap (a2)) 1073741824)) t109 t111 t115 bt117.1 true)) else (rhynelaw20_SerialWays.j0 k (wrap64 (Int.tmod (IntKind.u64.wrap (a0)) 4294967296)) (wrap64 (Int.tmod (IntKind.u64.wrap (a1)) 1073741824)) (wrap64 (Int.tmod (IntKind.u64.wrap (a2)) 1073741824)) t109 t111 t115 bt117.1 true)) else (rhynelaw20_SerialWays.j0 k (wrap64 (Int.tmod (IntKind.u64.wrap (a0)) 4294967296)) (wrap64 (Int.tmod (IntKind.u64.wrap (a1)) 1073741824)) (wrap64 (Int.tmod (IntKind.u64.wrap (a2)) 1073741824)) t109 t111 t115 bt117.1 true)) else (rhynelaw20_SerialWays.j0 k (wrap64 (Int.tmod (IntKind.u64.wrap (a0)) 4294967296)) (wrap64 (Int.tmod (IntKind.u64.wrap (a1)) 1073741824)) (wrap64 (Int.tmod (IntKind.u64.wrap (a2)) 1073741824)) t109 t111 t115 bt117.1 true)) else (rhynelaw20_SerialWays.j0 k (wrap64 (Int.tmod (IntKind.u64.wrap (a0)) 4294967296)) (wrap64 (Int.tmod (IntKind.u64.wrap (a1)) 1073741824)) (wrap64 (Int.tmod (IntKind.u64.wrap (a2)) 1073741824)) t109 t111 t115 bt117.1 true)) else (rhynelaw20_SerialWays.j0 k (wrap64 (Int.tmod (IntKind.u64.wrap (a0)) 4294967296)) (wrap64 (Int.tmod (IntKind.u64.wrap (a1)) 1073741824)) (wrap64 (Int.tmod (IntKind.u64.wrap (a2)) 1073741824)) t109 t111 t115 bt117.1 true)))) = some r := H
  have A7 := Aside0.mk A70
  clear A70
  replace H := Option.bind_eq_some_iff.mp H
  obtain ⟨⟨t117, t118⟩, A80, H⟩ := H
  replace H : ((rhynelaw20_rounds.f).bind fun t119 => (if t119 = true then (if t110 = 0 then (if t112 = 0 then (if t114 = 0 then (if t116 = 0 then (if t118 = 0 then (rhynelaw20_SerialWays.j0 k (wrap64 (Int.tmod (IntKind.u64.wrap (a0)) 4294967296)) (wrap64 (Int.tmod (IntKind.u64.wrap (a1)) 1073741824)) (wrap64 (Int.tmod (IntKind.u64.wrap (a2)) 1073741824)) t109 t111 t115 t117 (t111 != t113)) else (rhynelaw20_SerialWays.j0 k (wrap64 (Int.tmod (IntKind.u64.wrap (a0)) 4294967296)) (wrap64 (Int.tmod (IntKind.u64.wrap (a1)) 1073741824)) (wrap64 (Int.tmod (IntKind.u64.wrap (a2)) 1073741824)) t109 t111 t115 t117 true)) else (rhynelaw20_SerialWays.j0 k (wrap64 (Int.tmod (IntKind.u64.wrap (a0)) 4294967296)) (wrap64 (Int.tmod (IntKind.u64.wrap (a1)) 1073741824)) (wrap64 (Int.tmod (IntKind.u64.wrap (a2)) 1073741824)) t109 t111 t115 t117 true)) else (rhynelaw20_SerialWays.j0 k (wrap64 (Int.tmod (IntKind.u64.wrap (a0)) 4294967296)) (wrap64 (Int.tmod (IntKind.u64.wrap (a1)) 1073741824)) (wrap64 (Int.tmod (IntKind.u64.wrap (a2)) 1073741824)) t109 t111 t115 t117 true)) else (rhynelaw20_SerialWays.j0 k (wrap64 (Int.tmod (IntKind.u64.wrap (a0)) 4294967296)) (wrap64 (Int.tmod (IntKind.u64.wrap (a1)) 1073741824)) (wrap64 (Int.tmod (IntKind.u64.wrap (a2)) 1073741824)) t109 t111 t115 t117 true)) else (rhynelaw20_SerialWays.j0 k (wrap64 (Int.tmod (IntKind.u64.wrap (a0)) 4294967296)) (wrap64 (Int.tmod (IntKind.u64.wrap (a1)) 1073741824)) (wrap64 (Int.tmod (IntKind.u64.wrap (a2)) 1073741824)) t109 t111 t115 t117 true)) else (rhynelaw20_SerialWays.j0 k (wrap64 (Int.tmod (IntKind.u64.wrap (a0)) 4294967296)) (wrap64 (Int.tmod (IntKind.u64.wrap (a1)) 1073741824)) (wrap64 (Int.tmod (IntKind.u64.wrap (a2)) 1073741824)) t109 t111 t115 t117 true))) = some r := H
  have A8 := Aside0.mk A80
  clear A80
  have HC9 := Aside0.mk H
  clear H
  go_enter Try.func4, Try.ntmps4
  go_upto_region 8 with (first | ((with_reducible refine gate_callee (f := 8) rfl ?_); refine goesL_ (some 32) rfl rfl Try.func8 (by kernel_rfl) rfl #[.int .i64 (wrap64 (Int.tmod (IntKind.u64.wrap (a0)) 4294967296)), .int .i64 (wrap64 (Int.tmod (IntKind.u64.wrap (a1)) 1073741824))] rfl (by (try simp only [List.map_toArray, List.map_cons, List.map_nil]); first | done | rfl | (simp only [List.length_drop, List.length_take]; rfl)) ?_; (with_reducible refine (serial_Add.calls (wrap64 (Int.tmod (IntKind.u64.wrap (a0)) 4294967296)) (wrap64 (Int.tmod (IntKind.u64.wrap (a1)) 1073741824)) t109 t110 _ A4.out).mono ?_); rintro e w' ⟨rfl, ⟨nd, rfl⟩⟩; refine ⟨_, rfl, ?_⟩) | ((with_reducible refine gate_callee (f := 8) rfl ?_); refine goesL_ (some 38) rfl rfl Try.func8 (by kernel_rfl) rfl #[.int .i64 t109, .int .i64 (wrap64 (Int.tmod (IntKind.u64.wrap (a2)) 1073741824))] rfl (by (try simp only [List.map_toArray, List.map_cons, List.map_nil]); first | done | rfl | (simp only [List.length_drop, List.length_take]; rfl)) ?_; (with_reducible refine (serial_Add.calls t109 (wrap64 (Int.tmod (IntKind.u64.wrap (a2)) 1073741824)) t111 t112 _ A5.out).mono ?_); rintro e w' ⟨rfl, ⟨nd, rfl⟩⟩; refine ⟨_, rfl, ?_⟩) | ((with_reducible refine gate_callee (f := 8) rfl ?_); refine goesL_ (some 46) rfl rfl Try.func8 (by kernel_rfl) rfl #[.int .i64 (wrap64 (Int.tmod (IntKind.u64.wrap (a0)) 4294967296)), .int .i64 (wrap64 ((wrap64 (Int.tmod (IntKind.u64.wrap (a1)) 1073741824)) + (wrap64 (Int.tmod (IntKind.u64.wrap (a2)) 1073741824))))] rfl (by (try simp only [List.map_toArray, List.map_cons, List.map_nil]); first | done | rfl | (simp only [List.length_drop, List.length_take]; rfl)) ?_; (with_reducible refine (serial_Add.calls (wrap64 (Int.tmod (IntKind.u64.wrap (a0)) 4294967296)) (wrap64 ((wrap64 (Int.tmod (IntKind.u64.wrap (a1)) 1073741824)) + (wrap64 (Int.tmod (IntKind.u64.wrap (a2)) 1073741824)))) t113 t114 _ A6.out).mono ?_); rintro e w' ⟨rfl, ⟨nd, rfl⟩⟩; refine ⟨_, rfl, ?_⟩) | ((with_reducible refine gate_callee (f := 8) rfl ?_); refine goesL_ (some 51) rfl rfl Try.func8 (by kernel_rfl) rfl #[.int .i64 (wrap64 (Int.tmod (IntKind.u64.wrap (a0)) 4294967296)), .int .i64 2147483647] rfl (by (try simp only [List.map_toArray, List.map_cons, List.map_nil]); first | done | rfl | (simp only [List.length_drop, List.length_take]; rfl)) ?_; (with_reducible refine (serial_Add.calls (wrap64 (Int.tmod (IntKind.u64.wrap (a0)) 4294967296)) 2147483647 t115 t116 _ A7.out).mono ?_); rintro e w' ⟨rfl, ⟨nd, rfl⟩⟩; refine ⟨_, rfl, ?_⟩) | ((with_reducible refine gate_callee (f := 8) rfl ?_); refine goesL_ (some 56) rfl rfl Try.func8 (by kernel_rfl) rfl #[.int .i64 t115, .int .i64 1] rfl (by (try simp only [List.map_toArray, List.map_cons, List.map_nil]); first | done | rfl | (simp only [List.length_drop, List.length_take]; rfl)) ?_; (with_reducible refine (serial_Add.calls t115 1 t117 t118 _ A8.out).mono ?_); rintro e w' ⟨rfl, ⟨nd, rfl⟩⟩; refine ⟨_, rfl, ?_⟩))
  (try simp only [Act.put, List.setIfInBounds_toArray, List.set_cons_zero, List.set_cons_succ])
  go_cut [85] (fun v85 wc => ∃ (kq : Nat) (x85_8 : Bool), v85 = .bool x85_8 ∧ Aside0 (rhynelaw20_SerialWays.j0 kq (wrap64 (Int.tmod (IntKind.u64.wrap (a0)) 4294967296)) (wrap64 (Int.tmod (IntKind.u64.wrap (a1)) 1073741824)) (wrap64 (Int.tmod (IntKind.u64.wrap (a2)) 1073741824)) t109 t111 t115 t117 x85_8 = some r) ∧ Aside0 (kq ≤ k) ∧ Drawn0 w wc)
  case first =>
    have H := HC9.out
    clear HC9
    replace H := Option.bind_eq_some_iff.mp H
    obtain ⟨t119, A100, H⟩ := H
    replace H : (if t119 = true then (if t110 = 0 then (if t112 = 0 then (if t114 = 0 then (if t116 = 0 then (if t118 = 0 then (rhynelaw20_SerialWays.j0 k (wrap64 (Int.tmod (IntKind.u64.wrap (a0)) 4294967296)) (wrap64 (Int.tmod (IntKind.u64.wrap (a1)) 1073741824)) (wrap64 (Int.tmod (IntKind.u64.wrap (a2)) 1073741824)) t109 t111 t115 t117 (t111 != t113)) else (rhynelaw20_SerialWays.j0 k (wrap64 (Int.tmod (IntKind.u64.wrap (a0)) 4294967296)) (wrap64 (Int.tmod (IntKind.u64.wrap (a1)) 1073741824)) (wrap64 (Int.tmod (IntKind.u64.wrap (a2)) 1073741824)) t109 t111 t115 t117 true)) else (rhynelaw20_SerialWays.j0 k (wrap64 (Int.tmod (IntKind.u64.wrap (a0)) 4294967296)) (wrap64 (Int.tmod (IntKind.u64.wrap (a1)) 1073741824)) (wrap64 (Int.tmod (IntKind.u64.wrap (a2)) 1073741824)) t109 t111 t115 t117 true)) else (rhynelaw20_SerialWays.j0 k (wrap64 (Int.tmod (IntKind.u64.wrap (a0)) 4294967296)) (wrap64 (Int.tmod (IntKind.u64.wrap (a1)) 1073741824)) (wrap64 (Int.tmod (IntKind.u64.wrap (a2)) 1073741824)) t109 t111 t115 t117 true)) else (rhynelaw20_SerialWays.j0 k (wrap64 (Int.tmod (IntKind.u64.wrap (a0)) 4294967296)) (wrap64 (Int.tmod (IntKind.u64.wrap (a1)) 1073741824)) (wrap64 (Int.tmod (IntKind.u64.wrap (a2)) 1073741824)) t109 t111 t115 t117 true)) else (rhynelaw20_SerialWays.j0 k (wrap64 (Int.tmod (IntKind.u64.wrap (a0)) 4294967296)) (wrap64 (Int.tmod (IntKind.u64.wrap (a1)) 1073741824)) (wrap64 (Int.tmod (IntKind.u64.wrap (a2)) 1073741824)) t109 t111 t115 t117 true)) else (rhynelaw20_SerialWays.j0 k (wrap64 (Int.tmod (IntKind.u64.wrap (a0)) 4294967296)) (wrap64 (Int.tmod (IntKind.u64.wrap (a1)) 1073741824)) (wrap64 (Int.tmod (IntKind.u64.wrap (a2)) 1073741824)) t109 t111 t115 t117 true)) = some r := H
    have A10 := Aside0.mk A100
    clear A100
    by_cases c11 : t119 = true
    · subst c11
      have H1 : (if t110 = 0 then (if t112 = 0 then (if t114 = 0 then (if t116 = 0 then (if t118 = 0 then (rhynelaw20_SerialWays.j0 k (wrap64 (Int.tmod (IntKind.u64.wrap (a0)) 4294967296)) (wrap64 (Int.tmod (IntKind.u64.wrap (a1)) 1073741824)) (wrap64 (Int.tmod (IntKind.u64.wrap (a2)) 1073741824)) t109 t111 t115 t117 (t111 != t113)) else (rhynelaw20_SerialWays.j0 k (wrap64 (Int.tmod (IntKind.u64.wrap (a0)) 4294967296)) (wrap64 (Int.tmod (IntKind.u64.wrap (a1)) 1073741824)) (wrap64 (Int.tmod (IntKind.u64.wrap (a2)) 1073741824)) t109 t111 t115 t117 true)) else (rhynelaw20_SerialWays.j0 k (wrap64 (Int.tmod (IntKind.u64.wrap (a0)) 4294967296)) (wrap64 (Int.tmod (IntKind.u64.wrap (a1)) 1073741824)) (wrap64 (Int.tmod (IntKind.u64.wrap (a2)) 1073741824)) t109 t111 t115 t117 true)) else (rhynelaw20_SerialWays.j0 k (wrap64 (Int.tmod (IntKind.u64.wrap (a0)) 4294967296)) (wrap64 (Int.tmod (IntKind.u64.wrap (a1)) 1073741824)) (wrap64 (Int.tmod (IntKind.u64.wrap (a2)) 1073741824)) t109 t111 t115 t117 true)) else (rhynelaw20_SerialWays.j0 k (wrap64 (Int.tmod (IntKind.u64.wrap (a0)) 4294967296)) (wrap64 (Int.tmod (IntKind.u64.wrap (a1)) 1073741824)) (wrap64 (Int.tmod (IntKind.u64.wrap (a2)) 1073741824)) t109 t111 t115 t117 true)) else (rhynelaw20_SerialWays.j0 k (wrap64 (Int.tmod (IntKind.u64.wrap (a0)) 4294967296)) (wrap64 (Int.tmod (IntKind.u64.wrap (a1)) 1073741824)) (wrap64 (Int.tmod (IntKind.u64.wrap (a2)) 1073741824)) t109 t111 t115 t117 true)) = some r := by rw [if_pos rfl] at H; exact H
      clear H
      have H := H1
      clear H1
      by_cases c12 : t110 = 0
      · rw [if_pos c12] at H
        have c12b0 : (t110 == 0) = true := beq_iff_eq.mpr c12
        have c12b1 : (t110 != 0) = false := bne_eq_false_iff_eq.mpr c12
        clear c12
        (first | rw [c12b0] | (simp only [i64_w, i32_w]; rw [c12b0]) | skip)
        by_cases c13 : t112 = 0
        · rw [if_pos c13] at H
          have c13b0 : (t112 == 0) = true := beq_iff_eq.mpr c13
          have c13b1 : (t112 != 0) = false := bne_eq_false_iff_eq.mpr c13
          clear c13
          by_cases c14 : t114 = 0
          · rw [if_pos c14] at H
            have c14b0 : (t114 == 0) = true := beq_iff_eq.mpr c14
            have c14b1 : (t114 != 0) = false := bne_eq_false_iff_eq.mpr c14
            clear c14
            by_cases c15 : t116 = 0
            · rw [if_pos c15] at H
              have c15b0 : (t116 == 0) = true := beq_iff_eq.mpr c15
              have c15b1 : (t116 != 0) = false := bne_eq_false_iff_eq.mpr c15
              clear c15
              by_cases c16 : t118 = 0
              · rw [if_pos c16] at H
                have c16b0 : (t118 == 0) = true := beq_iff_eq.mpr c16
                have c16b1 : (t118 != 0) = false := bne_eq_false_iff_eq.mpr c16
                clear c16
                have H' := Aside0.mk H
                clear H
                go_wp2_with (first | ((with_reducible refine gate_callee (f := 9) rfl ?_); refine goesL_ (some 59) rfl rfl Try.func9 (by kernel_rfl) rfl #[] rfl (by (try simp only [List.map_toArray, List.map_cons, List.map_nil]); first | done | rfl | (simp only [List.length_drop, List.length_take]; rfl)) ?_; (with_reducible refine (rhynelaw20_rounds.calls  true _ A10.out).mono ?_); rintro e w' ⟨rfl, ⟨nd, rfl⟩⟩; refine ⟨_, rfl, ?_⟩))
                go_meet
                case rel => exact ⟨_, ((t111 != t113)), (by first | rfl | (simp; done) | (simp [*]; done)), H', ⟨by first | omega | exact Nat.le_refl _⟩, by repeat (first | exact Drawn0.refl _ | apply Drawn0.step)⟩
              · rw [if_neg c16] at H
                have c16b0 : (t118 == 0) = false := beq_eq_false_iff_ne.mpr c16
                have c16b1 : (t118 != 0) = true := bne_iff_ne.mpr c16
                have H' := Aside0.mk H
                clear H
                go_wp2_with (first | ((with_reducible refine gate_callee (f := 9) rfl ?_); refine goesL_ (some 59) rfl rfl Try.func9 (by kernel_rfl) rfl #[] rfl (by (try simp only [List.map_toArray, List.map_cons, List.map_nil]); first | done | rfl | (simp only [List.length_drop, List.length_take]; rfl)) ?_; (with_reducible refine (rhynelaw20_rounds.calls  true _ A10.out).mono ?_); rintro e w' ⟨rfl, ⟨nd, rfl⟩⟩; refine ⟨_, rfl, ?_⟩))
                go_meet
                case rel => exact ⟨_, (true), (by first | rfl | (simp; done) | (simp [*]; done)), H', ⟨by first | omega | exact Nat.le_refl _⟩, by repeat (first | exact Drawn0.refl _ | apply Drawn0.step)⟩
            · rw [if_neg c15] at H
              have c15b0 : (t116 == 0) = false := beq_eq_false_iff_ne.mpr c15
              have c15b1 : (t116 != 0) = true := bne_iff_ne.mpr c15
              have H' := Aside0.mk H
              clear H
              go_wp2_with (first | ((with_reducible refine gate_callee (f := 9) rfl ?_); refine goesL_ (some 59) rfl rfl Try.func9 (by kernel_rfl) rfl #[] rfl (by (try simp only [List.map_toArray, List.map_cons, List.map_nil]); first | done | rfl | (simp only [List.length_drop, List.length_take]; rfl)) ?_; (with_reducible refine (rhynelaw20_rounds.calls  true _ A10.out).mono ?_); rintro e w' ⟨rfl, ⟨nd, rfl⟩⟩; refine ⟨_, rfl, ?_⟩))
              go_meet
              case rel => exact ⟨_, (true), (by first | rfl | (simp; done) | (simp [*]; done)), H', ⟨by first | omega | exact Nat.le_refl _⟩, by repeat (first | exact Drawn0.refl _ | apply Drawn0.step)⟩
          · rw [if_neg c14] at H
            have c14b0 : (t114 == 0) = false := beq_eq_false_iff_ne.mpr c14
            have c14b1 : (t114 != 0) = true := bne_iff_ne.mpr c14
            have H' := Aside0.mk H
            clear H
            go_wp2_with (first | ((with_reducible refine gate_callee (f := 9) rfl ?_); refine goesL_ (some 59) rfl rfl Try.func9 (by kernel_rfl) rfl #[] rfl (by (try simp only [List.map_toArray, List.map_cons, List.map_nil]); first | done | rfl | (simp only [List.length_drop, List.length_take]; rfl)) ?_; (with_reducible refine (rhynelaw20_rounds.calls  true _ A10.out).mono ?_); rintro e w' ⟨rfl, ⟨nd, rfl⟩⟩; refine ⟨_, rfl, ?_⟩))
            go_meet
            case rel => exact ⟨_, (true), (by first | rfl | (simp; done) | (simp [*]; done)), H', ⟨by first | omega | exact Nat.le_refl _⟩, by repeat (first | exact Drawn0.refl _ | apply Drawn0.step)⟩
        · rw [if_neg c13] at H
          have c13b0 : (t112 == 0) = false := beq_eq_false_iff_ne.mpr c13
          have c13b1 : (t112 != 0) = true := bne_iff_ne.mpr c13
          have H' := Aside0.mk H
          clear H
          go_wp2_with (first | ((with_reducible refine gate_callee (f := 9) rfl ?_); refine goesL_ (some 59) rfl rfl Try.func9 (by kernel_rfl) rfl #[] rfl (by (try simp only [List.map_toArray, List.map_cons, List.map_nil]); first | done | rfl | (simp only [List.length_drop, List.length_take]; rfl)) ?_; (with_reducible refine (rhynelaw20_rounds.calls  true _ A10.out).mono ?_); rintro e w' ⟨rfl, ⟨nd, rfl⟩⟩; refine ⟨_, rfl, ?_⟩))
          go_meet
          case rel => exact ⟨_, (true), (by first | rfl | (simp; done) | (simp [*]; done)), H', ⟨by first | omega | exact Nat.le_refl _⟩, by repeat (first | exact Drawn0.refl _ | apply Drawn0.step)⟩
      · rw [if_neg c12] at H
        have c12b0 : (t110 == 0) = false := beq_eq_false_iff_ne.mpr c12
        have c12b1 : (t110 != 0) = true := bne_iff_ne.mpr c12
        (first | rw [c12b0] | (simp only [i64_w, i32_w]; rw [c12b0]) | skip)
        have H' := Aside0.mk H
        clear H
        go_wp2_with (first | ((with_reducible refine gate_callee (f := 9) rfl ?_); refine goesL_ (some 59) rfl rfl Try.func9 (by kernel_rfl) rfl #[] rfl (by (try simp only [List.map_toArray, List.map_cons, List.map_nil]); first | done | rfl | (simp only [List.length_drop, List.length_take]; rfl)) ?_; (with_reducible refine (rhynelaw20_rounds.calls  true _ A10.out).mono ?_); rintro e w' ⟨rfl, ⟨nd, rfl⟩⟩; refine ⟨_, rfl, ?_⟩))
        go_meet
        case rel => exact ⟨_, (true), (by first | rfl | (simp; done) | (simp [*]; done)), H', ⟨by first | omega | exact Nat.le_refl _⟩, by repeat (first | exact Drawn0.refl _ | apply Drawn0.step)⟩
    · replace c11 := Bool.eq_false_iff.mpr c11
      subst c11
      have H1 : (rhynelaw20_SerialWays.j0 k (wrap64 (Int.tmod (IntKind.u64.wrap (a0)) 4294967296)) (wrap64 (Int.tmod (IntKind.u64.wrap (a1)) 1073741824)) (wrap64 (Int.tmod (IntKind.u64.wrap (a2)) 1073741824)) t109 t111 t115 t117 true) = some r := by rw [if_neg (show ¬ (false = true) by decide)] at H; exact H
      clear H
      have H := H1
      clear H1
      have H' := Aside0.mk H
      clear H
      go_wp2_with (first | ((with_reducible refine gate_callee (f := 9) rfl ?_); refine goesL_ (some 59) rfl rfl Try.func9 (by kernel_rfl) rfl #[] rfl (by (try simp only [List.map_toArray, List.map_cons, List.map_nil]); first | done | rfl | (simp only [List.length_drop, List.length_take]; rfl)) ?_; (with_reducible refine (rhynelaw20_rounds.calls  false _ A10.out).mono ?_); rintro e w' ⟨rfl, ⟨nd, rfl⟩⟩; refine ⟨_, rfl, ?_⟩))
      go_meet
      case rel => exact ⟨_, (true), (by first | rfl | (simp; done) | (simp [*]; done)), H', ⟨by first | omega | exact Nat.le_refl _⟩, by repeat (first | exact Drawn0.refl _ | apply Drawn0.step)⟩
  case rest =>
    clear HC9
    try clear c1
    try clear p2
    try clear c4
    try clear p6
    try clear c8
    try clear c9
    try clear c11
    try clear c12
    try clear c12b0
    try clear c12b1
    try clear c13
    try clear c13b0
    try clear c13b1
    try clear c14
    try clear c14b0
    try clear c14b1
    try clear c15
    try clear c15b0
    try clear c15b1
    try clear c16
    try clear c16b0
    try clear c16b1
    obtain ⟨kq, x85_8, rfl, HA, HJ8, ⟨mc8, rfl⟩⟩ := hcut
    cases kq with
    | zero => exact absurd HA.out (by simp [rhynelaw20_SerialWays.j0])
    | succ kj8 =>
      have H := HA.out
      clear HA
      simp only [rhynelaw20_SerialWays.j0] at H
      by_cases c17 : x85_8 = true
      · subst c17
        have H1 : (some false) = some r := by rw [if_pos rfl] at H; exact H
        clear H
        have H := H1
        clear H1
        obtain rfl := Option.some.inj H
        go_wp2
        go_ret
        exact ⟨by first | rfl | (simp; done) | (simp [*]; done), by repeat (first | exact Drawn0.refl _ | apply Drawn0.step)⟩
      · replace c17 := Bool.eq_false_iff.mpr c17
        subst c17
        have H1 : ((serial_Less.f (wrap64 (Int.tmod (IntKind.u64.wrap (a0)) 4294967296)) t109).bind fun t120 => (if (t120 != (decide ((wrap64 (Int.tmod (IntKind.u64.wrap (a1)) 1073741824)) > 0))) = true then (rhynelaw20_SerialWays.j1 kj8 (wrap64 (Int.tmod (IntKind.u64.wrap (a0)) 4294967296)) t115 t117 true) else ((serial_Less.f t109 t111).bind fun t121 => (if (t121 != (decide ((wrap64 (Int.tmod (IntKind.u64.wrap (a2)) 1073741824)) > 0))) = true then (rhynelaw20_SerialWays.j1 kj8 (wrap64 (Int.tmod (IntKind.u64.wrap (a0)) 4294967296)) t115 t117 true) else ((serial_Less.f (wrap64 (Int.tmod (IntKind.u64.wrap (a0)) 4294967296)) t111).bind fun t122 => (rhynelaw20_SerialWays.j1 kj8 (wrap64 (Int.tmod (IntKind.u64.wrap (a0)) 4294967296)) t115 t117 (t122 != (decide ((wrap64 ((wrap64 (Int.tmod (IntKind.u64.wrap (a1)) 1073741824)) + (wrap64 (Int.tmod (IntKind.u64.wrap (a2)) 1073741824)))) > 0))))))))) = some r := by rw [if_neg (show ¬ (false = true) by decide)] at H; exact H
        clear H
        have H := H1
        clear H1
        have HC18 := Aside0.mk H
        clear H
        go_upto_region 10 with (fail)
        go_cut [109] (fun v109 wc => ∃ (kq : Nat) (x109_17 : Bool), v109 = .bool x109_17 ∧ Aside0 (rhynelaw20_SerialWays.j1 kq (wrap64 (Int.tmod (IntKind.u64.wrap (a0)) 4294967296)) t115 t117 x109_17 = some r) ∧ Aside0 (kq ≤ kj8) ∧ Drawn0 w wc)
        case first =>
          have H := HC18.out
          clear HC18
          replace H := Option.bind_eq_some_iff.mp H
          obtain ⟨t120, A190, H⟩ := H
          replace H : (if (t120 != (decide ((wrap64 (Int.tmod (IntKind.u64.wrap (a1)) 1073741824)) > 0))) = true then (rhynelaw20_SerialWays.j1 kj8 (wrap64 (Int.tmod (IntKind.u64.wrap (a0)) 4294967296)) t115 t117 true) else ((serial_Less.f t109 t111).bind fun t121 => (if (t121 != (decide ((wrap64 (Int.tmod (IntKind.u64.wrap (a2)) 1073741824)) > 0))) = true then (rhynelaw20_SerialWays.j1 kj8 (wrap64 (Int.tmod (IntKind.u64.wrap (a0)) 4294967296)) t115 t117 true) else ((serial_Less.f (wrap64 (Int.tmod (IntKind.u64.wrap (a0)) 4294967296)) t111).bind fun t122 => (rhynelaw20_SerialWays.j1 kj8 (wrap64 (Int.tmod (IntKind.u64.wrap (a0)) 4294967296)) t115 t117 (t122 != (decide ((wrap64 ((wrap64 (Int.tmod (IntKind.u64.wrap (a1)) 1073741824)) + (wrap64 (Int.tmod (IntKind.u64.wrap (a2)) 1073741824)))) > 0)))))))) = some r := H
          have A19 := Aside0.mk A190
          clear A190
          by_cases c20 : (t120 != (decide ((wrap64 (Int.tmod (IntKind.u64.wrap (a1)) 1073741824)) > 0))) = true
          · rw [if_pos c20] at H
            have c20b0 : (t120 != (decide ((wrap64 (Int.tmod (IntKind.u64.wrap (a1)) 1073741824)) > 0))) = true := c20
            (try (have c20b1 : decide (t120 = (decide ((wrap64 (Int.tmod (IntKind.u64.wrap (a1)) 1073741824)) > 0))) = false := by simpa using c20))
            (try (have c20b2 : (t120 == (decide ((wrap64 (Int.tmod (IntKind.u64.wrap (a1)) 1073741824)) > 0))) = false := by simpa using c20))
            (try (have c20b3 : ¬ (t120 = (decide ((wrap64 (Int.tmod (IntKind.u64.wrap (a1)) 1073741824)) > 0))) := by simpa using c20))
            clear c20
            (first | rw [c20b0] | (simp only [i64_w, i32_w]; rw [c20b0]) | skip)
            have H' := Aside0.mk H
            clear H
            go_wp2_with (first | ((with_reducible refine gate_callee (f := 10) rfl ?_); refine goesL_ (some 88) rfl rfl Try.func10 (by kernel_rfl) rfl #[.int .i64 (wrap64 (Int.tmod (IntKind.u64.wrap (a0)) 4294967296)), .int .i64 t109] rfl (by (try simp only [List.map_toArray, List.map_cons, List.map_nil]); first | done | rfl | (simp only [List.length_drop, List.length_take]; rfl)) ?_; (with_reducible refine (serial_Less.calls (wrap64 (Int.tmod (IntKind.u64.wrap (a0)) 4294967296)) t109 t120 _ A19.out).mono ?_); rintro e w' ⟨rfl, ⟨nd, rfl⟩⟩; refine ⟨_, rfl, ?_⟩))
            go_meet
            case rel => exact ⟨_, (true), (by first | rfl | (simp; done) | (simp [*]; done)), H', ⟨by have := HJ8.out; first | omega | exact Nat.le_refl _⟩, by repeat (first | exact Drawn0.refl _ | apply Drawn0.step)⟩
          · rw [if_neg c20] at H
            have c20b0 : (t120 != (decide ((wrap64 (Int.tmod (IntKind.u64.wrap (a1)) 1073741824)) > 0))) = false := by simpa using c20
            (try (have c20b1 : decide (t120 = (decide ((wrap64 (Int.tmod (IntKind.u64.wrap (a1)) 1073741824)) > 0))) = true := by simpa using c20))
            (try (have c20b2 : (t120 == (decide ((wrap64 (Int.tmod (IntKind.u64.wrap (a1)) 1073741824)) > 0))) = true := by simpa using c20))
            clear c20
            (first | rw [c20b0] | (simp only [i64_w, i32_w]; rw [c20b0]) | skip)
            replace H := Option.bind_eq_some_iff.mp H
            obtain ⟨t121, A210, H⟩ := H
            replace H : (if (t121 != (decide ((wrap64 (Int.tmod (IntKind.u64.wrap (a2)) 1073741824)) > 0))) = true then (rhynelaw20_SerialWays.j1 kj8 (wrap64 (Int.tmod (IntKind.u64.wrap (a0)) 4294967296)) t115 t117 true) else ((serial_Less.f (wrap64 (Int.tmod (IntKind.u64.wrap (a0)) 4294967296)) t111).bind fun t122 => (rhynelaw20_SerialWays.j1 kj8 (wrap64 (Int.tmod (IntKind.u64.wrap (a0)) 4294967296)) t115 t117 (t122 != (decide ((wrap64 ((wrap64 (Int.tmod (IntKind.u64.wrap (a1)) 1073741824)) + (wrap64 (Int.tmod (IntKind.u64.wrap (a2)) 1073741824)))) > 0)))))) = some r := H
            have A21 := Aside0.mk A210
            clear A210
            by_cases c22 : (t121 != (decide ((wrap64 (Int.tmod (IntKind.u64.wrap (a2)) 1073741824)) > 0))) = true
            · rw [if_pos c22] at H
              have c22b0 : (t121 != (decide ((wrap64 (Int.tmod (IntKind.u64.wrap (a2)) 1073741824)) > 0))) = true := c22
              (try (have c22b1 : decide (t121 = (decide ((wrap64 (Int.tmod (IntKind.u64.wrap (a2)) 1073741824)) > 0))) = false := by simpa using c22))
              (try (have c22b2 : (t121 == (decide ((wrap64 (Int.tmod (IntKind.u64.wrap (a2)) 1073741824)) > 0))) = false := by simpa using c22))
              (try (have c22b3 : ¬ (t121 = (decide ((wrap64 (Int.tmod (IntKind.u64.wrap (a2)) 1073741824)) > 0))) := by simpa using c22))
              clear c22
              have H' := Aside0.mk H
              clear H
              go_wp2_with (first | ((with_reducible refine gate_callee (f := 10) rfl ?_); refine goesL_ (some 88) rfl rfl Try.func10 (by kernel_rfl) rfl #[.int .i64 (wrap64 (Int.tmod (IntKind.u64.wrap (a0)) 4294967296)), .int .i64 t109] rfl (by (try simp only [List.map_toArray, List.map_cons, List.map_nil]); first | done | rfl | (simp only [List.length_drop, List.length_take]; rfl)) ?_; (with_reducible refine (serial_Less.calls (wrap64 (Int.tmod (IntKind.u64.wrap (a0)) 4294967296)) t109 t120 _ A19.out).mono ?_); rintro e w' ⟨rfl, ⟨nd, rfl⟩⟩; refine ⟨_, rfl, ?_⟩) | (go_at_call 10; (with_reducible refine (serial_Less.calls t109 t111 t121 _ A21.out).mono ?_); rintro e w' ⟨rfl, ⟨nd, rfl⟩⟩))
              go_meet
              case rel => exact ⟨_, (true), (by first | rfl | (simp; done) | (simp [*]; done)), H', ⟨by have := HJ8.out; first | omega | exact Nat.le_refl _⟩, by repeat (first | exact Drawn0.refl _ | apply Drawn0.step)⟩
            · rw [if_neg c22] at H
              have c22b0 : (t121 != (decide ((wrap64 (Int.tmod (IntKind.u64.wrap (a2)) 1073741824)) > 0))) = false := by simpa using c22
              (try (have c22b1 : decide (t121 = (decide ((wrap64 (Int.tmod (IntKind.u64.wrap (a2)) 1073741824)) > 0))) = true := by simpa using c22))
              (try (have c22b2 : (t121 == (decide ((wrap64 (Int.tmod (IntKind.u64.wrap (a2)) 1073741824)) > 0))) = true := by simpa using c22))
              clear c22
              replace H := Option.bind_eq_some_iff.mp H
              obtain ⟨t122, A230, H⟩ := H
              replace H : (rhynelaw20_SerialWays.j1 kj8 (wrap64 (Int.tmod (IntKind.u64.wrap (a0)) 4294967296)) t115 t117 (t122 != (decide ((wrap64 ((wrap64 (Int.tmod (IntKind.u64.wrap (a1)) 1073741824)) + (wrap64 (Int.tmod (IntKind.u64.wrap (a2)) 1073741824)))) > 0)))) = some r := H
              have A23 := Aside0.mk A230
              clear A230
              have H' := Aside0.mk H
              clear H
              go_wp2_with (first | ((with_reducible refine gate_callee (f := 10) rfl ?_); refine goesL_ (some 88) rfl rfl Try.func10 (by kernel_rfl) rfl #[.int .i64 (wrap64 (Int.tmod (IntKind.u64.wrap (a0)) 4294967296)), .int .i64 t109] rfl (by (try simp only [List.map_toArray, List.map_cons, List.map_nil]); first | done | rfl | (simp only [List.length_drop, List.length_take]; rfl)) ?_; (with_reducible refine (serial_Less.calls (wrap64 (Int.tmod (IntKind.u64.wrap (a0)) 4294967296)) t109 t120 _ A19.out).mono ?_); rintro e w' ⟨rfl, ⟨nd, rfl⟩⟩; refine ⟨_, rfl, ?_⟩) | (go_at_call 10; (with_reducible refine (serial_Less.calls t109 t111 t121 _ A21.out).mono ?_); rintro e w' ⟨rfl, ⟨nd, rfl⟩⟩) | (go_at_call 10; (with_reducible refine (serial_Less.calls (wrap64 (Int.tmod (IntKind.u64.wrap (a0)) 4294967296)) t111 t122 _ A23.out).mono ?_); rintro e w' ⟨rfl, ⟨nd, rfl⟩⟩))
              go_meet
              case rel => exact ⟨_, ((t122 != (decide ((wrap64 ((wrap64 (Int.tmod (IntKind.u64.wrap (a1)) 1073741824)) + (wrap64 (Int.tmod (IntKind.u64.wrap (a2)) 1073741824)))) > 0)))), (by first | rfl | (simp; done) | (simp [*]; done)), H', ⟨by have := HJ8.out; first | omega | exact Nat.le_refl _⟩, by repeat (first | exact Drawn0.refl _ | apply Drawn0.step)⟩
        case rest =>
          clear HC18
          try clear c1
          try clear c2
          try clear p2
          try clear c4
          try clear p6
          try clear c8
          try clear c9
          try clear c10
          try clear c11
          try clear c12
          try clear c12b0
          try clear c12b1
          try clear c13
          try clear c13b0
          try clear c13b1
          try clear c14
          try clear c14b0
          try clear c14b1
          try clear c15
          try clear c15b0
          try clear c15b1
          try clear c16
          try clear c16b0
          try clear c16b1
          try clear c17
          try clear c20
          try clear c20b0
          try clear c20b1
          try clear c20b2
          try clear c22
          try clear c22b0
          try clear c22b1
          try clear c22b2
          try clear p2
          try clear p6
          obtain ⟨kq, x109_17, rfl, HA, HJ17, ⟨mc17, rfl⟩⟩ := hcut
          cases kq with
          | zero => exact absurd HA.out (by simp [rhynelaw20_SerialWays.j1])
          | succ kj17 =>
            have H := HA.out
            clear HA
            simp only [rhynelaw20_SerialWays.j1] at H
            by_cases c24 : x109_17 = true
            · subst c24
              have H1 : (some false) = some r := by rw [if_pos rfl] at H; exact H
              clear H
              have H := H1
              clear H1
              obtain rfl := Option.some.inj H
              go_wp2
              go_ret
              exact ⟨by first | rfl | (simp; done) | (simp [*]; done), by repeat (first | exact Drawn0.refl _ | apply Drawn0.step)⟩
            · replace c24 := Bool.eq_false_iff.mpr c24
              subst c24
              have H1 : ((serial_Less.f (wrap64 (Int.tmod (IntKind.u64.wrap (a0)) 4294967296)) t117).bind fun t123 => (if t123 = true then (some false) else ((serial_Less.f t117 (wrap64 (Int.tmod (IntKind.u64.wrap (a0)) 4294967296))).bind fun t124 => (if t124 = true then (some false) else (if t117 = (wrap64 (Int.tmod (IntKind.u64.wrap (a0)) 4294967296)) then (some false) else ((serial_Less.f (wrap64 (Int.tmod (IntKind.u64.wrap (a0)) 4294967296)) t115).bind fun t125 => (some t125))))))) = some r := by rw [if_neg (show ¬ (false = true) by decide)] at H; exact H
              clear H
              have H := H1
              clear H1
              replace H := Option.bind_eq_some_iff.mp H
              obtain ⟨t123, A250, H⟩ := H
              replace H : (if t123 = true then (some false) else ((serial_Less.f t117 (wrap64 (Int.tmod (IntKind.u64.wrap (a0)) 4294967296))).bind fun t124 => (if t124 = true then (some false) else (if t117 = (wrap64 (Int.tmod (IntKind.u64.wrap (a0)) 4294967296)) then (some false) else ((serial_Less.f (wrap64 (Int.tmod (IntKind.u64.wrap (a0)) 4294967296)) t115).bind fun t125 => (some t125)))))) = some r := H
              have A25 := Aside0.mk A250
              clear A250
              by_cases c26 : t123 = true
              · subst c26
                have H1 : (some false) = some r := by rw [if_pos rfl] at H; exact H
                clear H
                have H := H1
                clear H1
                obtain rfl := Option.some.inj H
                go_wp2_with (first | ((with_reducible refine gate_callee (f := 10) rfl ?_); refine goesL_ (some 112) rfl rfl Try.func10 (by kernel_rfl) rfl #[.int .i64 (wrap64 (Int.tmod (IntKind.u64.wrap (a0)) 4294967296)), .int .i64 t117] rfl (by (try simp only [List.map_toArray, List.map_cons, List.map_nil]); first | done | rfl | (simp only [List.length_drop, List.length_take]; rfl)) ?_; (with_reducible refine (serial_Less.calls (wrap64 (Int.tmod (IntKind.u64.wrap (a0)) 4294967296)) t117 true _ A25.out).mono ?_); rintro e w' ⟨rfl, ⟨nd, rfl⟩⟩; refine ⟨_, rfl, ?_⟩))
                go_ret
                exact ⟨by first | rfl | (simp; done) | (simp [*]; done), by repeat (first | exact Drawn0.refl _ | apply Drawn0.step)⟩
              · replace c26 := Bool.eq_false_iff.mpr c26
                subst c26
                have H1 : ((serial_Less.f t117 (wrap64 (Int.tmod (IntKind.u64.wrap (a0)) 4294967296))).bind fun t124 => (if t124 = true then (some false) else (if t117 = (wrap64 (Int.tmod (IntKind.u64.wrap (a0)) 4294967296)) then (some false) else ((serial_Less.f (wrap64 (Int.tmod (IntKind.u64.wrap (a0)) 4294967296)) t115).bind fun t125 => (some t125))))) = some r := by rw [if_neg (show ¬ (false = true) by decide)] at H; exact H
                clear H
                have H := H1
                clear H1
                replace H := Option.bind_eq_some_iff.mp H
                obtain ⟨t124, A270, H⟩ := H
                replace H : (if t124 = true then (some false) else (if t117 = (wrap64 (Int.tmod (IntKind.u64.wrap (a0)) 4294967296)) then (some false) else ((serial_Less.f (wrap64 (Int.tmod (IntKind.u64.wrap (a0)) 4294967296)) t115).bind fun t125 => (some t125)))) = some r := H
                have A27 := Aside0.mk A270
                clear A270
                by_cases c28 : t124 = true
                · subst c28
                  have H1 : (some false) = some r := by rw [if_pos rfl] at H; exact H
                  clear H
                  have H := H1
                  clear H1
                  obtain rfl := Option.some.inj H
                  go_wp2_with (first | ((with_reducible refine gate_callee (f := 10) rfl ?_); refine goesL_ (some 112) rfl rfl Try.func10 (by kernel_rfl) rfl #[.int .i64 (wrap64 (Int.tmod (IntKind.u64.wrap (a0)) 4294967296)), .int .i64 t117] rfl (by (try simp only [List.map_toArray, List.map_cons, List.map_nil]); first | done | rfl | (simp only [List.length_drop, List.length_take]; rfl)) ?_; (with_reducible refine (serial_Less.calls (wrap64 (Int.tmod (IntKind.u64.wrap (a0)) 4294967296)) t117 false _ A25.out).mono ?_); rintro e w' ⟨rfl, ⟨nd, rfl⟩⟩; refine ⟨_, rfl, ?_⟩) | (go_at_call 10; (with_reducible refine (serial_Less.calls t117 (wrap64 (Int.tmod (IntKind.u64.wrap (a0)) 4294967296)) true _ A27.out).mono ?_); rintro e w' ⟨rfl, ⟨nd, rfl⟩⟩))
                  go_ret
                  exact ⟨by first | rfl | (simp; done) | (simp [*]; done), by repeat (first | exact Drawn0.refl _ | apply Drawn0.step)⟩
                · replace c28 := Bool.eq_false_iff.mpr c28
                  subst c28
                  have H1 : (if t117 = (wrap64 (Int.tmod (IntKind.u64.wrap (a0)) 4294967296)) then (some false) else ((serial_Less.f (wrap64 (Int.tmod (IntKind.u64.wrap (a0)) 4294967296)) t115).bind fun t125 => (some t125))) = some r := by rw [if_neg (show ¬ (false = true) by decide)] at H; exact H
                  clear H
                  have H := H1
                  clear H1
                  by_cases c29 : t117 = (wrap64 (Int.tmod (IntKind.u64.wrap (a0)) 4294967296))
                  · rw [if_pos c29] at H
                    have c29b0 : (t117 == (wrap64 (Int.tmod (IntKind.u64.wrap (a0)) 4294967296))) = true := beq_iff_eq.mpr c29
                    have c29b1 : (t117 != (wrap64 (Int.tmod (IntKind.u64.wrap (a0)) 4294967296))) = false := bne_eq_false_iff_eq.mpr c29
                    clear c29
                    obtain rfl := Option.some.inj H
                    go_wp2_with (first | ((with_reducible refine gate_callee (f := 10) rfl ?_); refine goesL_ (some 112) rfl rfl Try.func10 (by kernel_rfl) rfl #[.int .i64 (wrap64 (Int.tmod (IntKind.u64.wrap (a0)) 4294967296)), .int .i64 t117] rfl (by (try simp only [List.map_toArray, List.map_cons, List.map_nil]); first | done | rfl | (simp only [List.length_drop, List.length_take]; rfl)) ?_; (with_reducible refine (serial_Less.calls (wrap64 (Int.tmod (IntKind.u64.wrap (a0)) 4294967296)) t117 false _ A25.out).mono ?_); rintro e w' ⟨rfl, ⟨nd, rfl⟩⟩; refine ⟨_, rfl, ?_⟩) | (go_at_call 10; (with_reducible refine (serial_Less.calls t117 (wrap64 (Int.tmod (IntKind.u64.wrap (a0)) 4294967296)) false _ A27.out).mono ?_); rintro e w' ⟨rfl, ⟨nd, rfl⟩⟩))
                    go_ret
                    exact ⟨by first | rfl | (simp; done) | (simp [*]; done), by repeat (first | exact Drawn0.refl _ | apply Drawn0.step)⟩
                  · rw [if_neg c29] at H
                    have c29b0 : (t117 == (wrap64 (Int.tmod (IntKind.u64.wrap (a0)) 4294967296))) = false := beq_eq_false_iff_ne.mpr c29
                    have c29b1 : (t117 != (wrap64 (Int.tmod (IntKind.u64.wrap (a0)) 4294967296))) = true := bne_iff_ne.mpr c29
                    replace H := Option.bind_eq_some_iff.mp H
                    obtain ⟨t125, A300, H⟩ := H
                    replace H : (some t125) = some r := H
                    have A30 := Aside0.mk A300
                    clear A300
                    obtain rfl := Option.some.inj H
                    go_wp2_with (first | ((with_reducible refine gate_callee (f := 10) rfl ?_); refine goesL_ (some 112) rfl rfl Try.func10 (by kernel_rfl) rfl #[.int .i64 (wrap64 (Int.tmod (IntKind.u64.wrap (a0)) 4294967296)), .int .i64 t117] rfl (by (try simp only [List.map_toArray, List.map_cons, List.map_nil]); first | done | rfl | (simp only [List.length_drop, List.length_take]; rfl)) ?_; (with_reducible refine (serial_Less.calls (wrap64 (Int.tmod (IntKind.u64.wrap (a0)) 4294967296)) t117 false _ A25.out).mono ?_); rintro e w' ⟨rfl, ⟨nd, rfl⟩⟩; refine ⟨_, rfl, ?_⟩) | (go_at_call 10; (with_reducible refine (serial_Less.calls t117 (wrap64 (Int.tmod (IntKind.u64.wrap (a0)) 4294967296)) false _ A27.out).mono ?_); rintro e w' ⟨rfl, ⟨nd, rfl⟩⟩) | (go_at_call 10; (with_reducible refine (serial_Less.calls (wrap64 (Int.tmod (IntKind.u64.wrap (a0)) 4294967296)) t115 t125 _ A30.out).mono ?_); rintro e w' ⟨rfl, ⟨nd, rfl⟩⟩))
                    go_ret
                    exact ⟨by first | rfl | (simp; done) | (simp [*]; done), by repeat (first | exact Drawn0.refl _ | apply Drawn0.step)⟩

/-- THE ONE PURE STATEMENT of rhynelaw20_SerialWays: yours. -/
def rhynelaw20_SerialWays.Pure : Prop := ∀ (a0 : Int) (a1 : Int) (a2 : Int), (Lit.int .i64 a0).wf = true → (Lit.int .i64 a1).wf = true → (Lit.int .i64 a2).wf = true → ∃ k, rhynelaw20_SerialWays.f k a0 a1 a2 = some true
theorem rhynelaw20_SerialWays.walk (P : rhynelaw20_SerialWays.Pure) (a0 : Int) (a1 : Int) (a2 : Int) (w : World) (w0 : (Lit.int .i64 a0).wf = true) (w1 : (Lit.int .i64 a1).wf = true) (w2 : (Lit.int .i64 a2).wf = true) :
    Calls Try.prog 4 #[.int .i64 a0, .int .i64 a1, .int .i64 a2] w fun e w' => e = .returned (.bool true) ∧ Below w.heap.size w w' := by
  obtain ⟨k, h⟩ := P a0 a1 a2 w0 w1 w2
  refine (rhynelaw20_SerialWays.calls k a0 a1 a2 true w h).mono ?_
  rintro e w' ⟨rfl, hd⟩
  exact ⟨rfl, hd.below⟩

end Go.Proofs.Ytpbhjemieikgpaa.PSerialWays
