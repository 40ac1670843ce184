import Derived.Test.YtliblomkhapibaaL19
import Derived.Test.YtliblomkhapibaaPhRead
set_option maxRecDepth 100000
set_option maxHeartbeats 1000000
set_option linter.unusedSimpArgs false
set_option linter.unusedVariables false
namespace Ph
open Go Go.Proofs
attribute [local irreducible] Value.cells
attribute [local go_sem ↓] y_move y_assign y_pick y_nil y_bin y_un y_fa y_field y_ext y_ia y_ix y_slice y_build y_mf y_load y_len y_min y_max y_conv y_bs y_mk y_alloc y_box y_store y_clear y_app y_callf y_callt s_move s_assign s_pick s_nil s_bin s_un s_fa s_field s_ext s_ia s_ix s_slice s_conv s_build s_bs s_mf s_alloc s_box s_load s_store s_len s_clear s_min s_max s_app s_call q_call q_move q_assign q_pick q_nil q_bin q_un q_fa q_field q_ext q_ia q_ix q_slice q_conv q_build q_mf q_load q_len q_min q_max l_nil l_move l_assign l_pick l_nilc l_bin l_un l_fa l_field l_ext l_ia l_ix l_slice l_conv l_build l_mf l_load l_len l_min l_max l_call put_eq putN_eq o_nil o_plain o_gate v_nil v_plain v_gate vc_skip vc_region vc_seq vc_cond vc_block vc_loop vc_rf vc_exit vc_ret blk_normal blk_ret blk_exit on_normal on_ret on_exit vc_drawn draw_q s_mk l_bs l_mk l_alloc l_box l_store l_app l_clear pl_done pl_takeS pl_take pl_alt pl_stop one_plain one_gate
attribute [local go_sem] clear_nil clear_sl onAgg_a onTuple_t onFn_f onFn_y onFunc_f c_int c_nil c_sl c_str sl_sl sl_nil sl_str ix_str ix_agg n_nil n_sl n_str app_eq k_nil k_sl len_sl len_str upd_some upd_none ev_tmp ev_const ev_func rd_some gdst_eq otmp_t otmp_c get_put get_alloc next_put next_alloc get_app next_app init_a resV1 resV2 onPtr_ptr onBool_b onInt_i onSlice_s onSome_s onCells_c lett_eq gate_tt gate_tf gate_ff gate_ft gate_dt gate_df also_eq bin un minmax io_none io_some bo_none bo_some partOf List.getElem?_cons_zero List.getElem?_cons_succ List.getElem?_toArray Option.map_some Option.map_none Option.bind_some ne_eq not_true_eq_false not_false_eq_true false_implies true_implies and_true true_and and_self Bool.false_eq_true Nat.zero_add Nat.add_zero List.size_toArray List.length_cons List.length_nil List.map_toArray List.map_cons List.map_nil Array.getD_eq_getD_getElem? Option.getD_some Bool.not_true Bool.not_false Bool.not_eq_true Option.isNone_some Option.isNone_none List.append_toArray List.append_nil List.nil_append List.cons_append decide_true decide_false in_nil in_cons Bool.and_false Bool.and_true Bool.or_false Bool.true_or Bool.false_or get_mask next_mask get_unmask next_unmask ac_move ac_assign ac_pick ac_nil ac_bin ac_un ac_fa ac_field ac_ext ac_ia ac_ix ac_slice ac_build ac_mf ac_call ac_load ac_conv accP_p accS_s accS_n accS_i accS_t fixed_ro fixed_lock fixed_own get_ro next_ro lock_live' lock_cells List.mem_cons List.not_mem_nil or_false false_or or_true true_or and_false false_and IntKind.bits Int.natCast_zero Int.natCast_one size_str data_str list_str mk_str ext_str app_str bytes_str w_byte w_byteu Int.toNat_natCast Int.toNat_zero Int.toNat_one Nat.sub_zero ge_iff_le gt_iff_lt Nat.le_refl Int.le_refl List.drop_zero Int.ofNat_eq_natCast Int.natCast_nonneg Int.sub_zero oc_int oc_bool oc_str oc_ptr oc_sl oc_map oc_func List.set_cons_zero List.set_cons_succ Nat.mul_one List.all_cons List.all_nil Bool.and_self res_nil res_tmp res_cell tup_one tup_two tup_nil fill_nil repl_zero cells_agg List.append_eq List.toList_toArray Nat.zero_mul Nat.one_mul repl_one repl_two onSome_build fill_cons onSome_lit splice_eq cells_int cells_bool cells_str cells_ptr cells_sl cells_map cells_func loadK_n loadK_s load_k storeK_n storeK_s store_k all_arr List.take_zero List.take_succ_cons List.drop_succ_cons List.take_nil List.drop_nil lk_own lk_ro lk_lock lk_lk fixed_lk gate_nt gate_nf gate3_b gate3_u undef Bool.true_and Bool.false_and nx_l nx_r nx_lt put_put resV0
theorem slr_num {h : Heap} {v : Value} {l : List Int} (hs : SlR (Rd.int .i64) h v l) : NumR h v l := by
  rcases hs with ⟨rfl, rfl⟩ | ⟨i, cells, rfl, h2, h3, h4, h5⟩
  · exact ⟨.inl ⟨rfl, rfl⟩, fun A n st e => by cases e⟩
  · refine ⟨.inr ⟨i, 0, cells, .ro, rfl, h3, ?_⟩, fun A n st e => by cases e; exact h2⟩
    have e1 : (Rd.int .i64).sz = 1 := rfl
    rw [e1, Nat.mul_one] at h4
    refine ⟨by rw [show intE.k = 1 from rfl]; omega, ?_⟩
    rw [show intE.k = 1 from rfl, Nat.mul_one, List.drop_zero, ← h4, List.take_length]
    apply List.ext_getElem?
    intro k
    have ef : ∀ m : List Int, intE.flat m = m.map (Value.int .i64) := fun m => by
      induction m with
      | nil => rfl
      | cons x m ih => rw [show intE.flat (x :: m) = [.int .i64 x] ++ intE.flat m from by simp [Enc.flat, intE], ih]; rfl
    rw [ef, List.getElem?_map]
    cases hx : l[k]? with
    | none =>
      rw [List.getElem?_eq_none_iff] at hx
      rw [List.getElem?_eq_none (by omega)]; rfl
    | some x =>
      have := h5 k x hx
      rw [e1, Nat.mul_one] at this
      exact take_one this
set_option maxHeartbeats 4000000 in
theorem lossTrips_ph (h : Heap) (l0 : List Int) (s0 : Value) (hs0 : SlR (Rd.int .i64) h s0 l0) (wf0 : (l0.length ≤ maxLen ∧ ∀ x ∈ l0, (Lit.int .i64 x).wf = true)) :
    @CallsH Try.prog 3 #[s0] h ⟨fun u _ => u = .bool true⟩ := by
  have hN0 := slr_num hs0
  (refine calls_of_codeR (rs := [.tmp 2]) Try.func3 rfl rfl (by simp) ?_)
  (refine CodeH.seq' (CodeH.of_vc [] hm (by kernel_rfl) ?_); simp (config := { dsimp := false, maxSteps := 10000000 }) (disch := omega) only [go_sem, reduceIte, Nat.reduceEqDiff, reduceCtorEq, Nat.reduceAdd, Nat.reduceMul, Int.reduceToNat, Int.reduceLE, Int.reduceLT, Int.reduceEq, Int.reduceNe, Nat.reduceLeDiff, Int.reducePow, Nat.reducePow, Nat.reduceLT, Nat.reduceSub, Nat.reduceMod, Nat.reduceDiv, slot_neg, slot_pos, T.ag_3, T.eb_33, T.es_22, T.ez_33, T.gf_10, T.gf_11, T.gf_12, T.gf_8, T.gf_9, T.ib_26, T.ib_27, T.ib_3, T.ii_22, T.ii_26, T.ii_3, T.ip_26, T.ip_27, T.ip_3, T.pl_32, T.s8_22, T.s8_26, T.s8_3, T.sl_22, T.sl_26, T.sl_3, T.st_22, T.st_26, T.st_3, T.un_22, T.un_26, T.un_3, T.zo_32, init_a])
  (refine CodeH.seq' (CodeH.of_vc [] hm (by kernel_rfl) ?_); simp (config := { dsimp := false, maxSteps := 10000000 }) (disch := omega) only [go_sem, reduceIte, Nat.reduceEqDiff, reduceCtorEq, Nat.reduceAdd, Nat.reduceMul, Int.reduceToNat, Int.reduceLE, Int.reduceLT, Int.reduceEq, Int.reduceNe, Nat.reduceLeDiff, Int.reducePow, Nat.reducePow, Nat.reduceLT, Nat.reduceSub, Nat.reduceMod, Nat.reduceDiv, slot_neg, slot_pos, T.ag_3, T.eb_33, T.es_22, T.ez_33, T.gf_10, T.gf_11, T.gf_12, T.gf_8, T.gf_9, T.ib_26, T.ib_27, T.ib_3, T.ii_22, T.ii_26, T.ii_3, T.ip_26, T.ip_27, T.ip_3, T.pl_32, T.s8_22, T.s8_26, T.s8_3, T.sl_22, T.sl_26, T.sl_3, T.st_22, T.st_26, T.st_3, T.un_22, T.un_26, T.un_3, T.zo_32, init_a])
  refine (travels_ph _).mono fun u H0 ⟨e0, hU0⟩ => ?_
  subst e0
  have hN1 := hN0.upd hU0
  simp (config := { dsimp := false, maxSteps := 10000000 }) (disch := omega) only [go_sem, reduceIte, Nat.reduceEqDiff, reduceCtorEq, Nat.reduceAdd, Nat.reduceMul, Int.reduceToNat, Int.reduceLE, Int.reduceLT, Int.reduceEq, Int.reduceNe, Nat.reduceLeDiff, Int.reducePow, Nat.reducePow, Nat.reduceLT, Nat.reduceSub, Nat.reduceMod, Nat.reduceDiv, slot_neg, slot_pos, T.ag_3, T.eb_33, T.es_22, T.ez_33, T.gf_10, T.gf_11, T.gf_12, T.gf_8, T.gf_9, T.ib_26, T.ib_27, T.ib_3, T.ii_22, T.ii_26, T.ii_3, T.ip_26, T.ip_27, T.ip_3, T.pl_32, T.s8_22, T.s8_26, T.s8_3, T.sl_22, T.sl_26, T.sl_3, T.st_22, T.st_26, T.st_3, T.un_22, T.un_26, T.un_3, T.zo_32]
  (refine CodeH.seq' (CodeH.of_vc [] hm (by kernel_rfl) ?_); simp (config := { dsimp := false, maxSteps := 10000000 }) (disch := omega) only [go_sem, reduceIte, Nat.reduceEqDiff, reduceCtorEq, Nat.reduceAdd, Nat.reduceMul, Int.reduceToNat, Int.reduceLE, Int.reduceLT, Int.reduceEq, Int.reduceNe, Nat.reduceLeDiff, Int.reducePow, Nat.reducePow, Nat.reduceLT, Nat.reduceSub, Nat.reduceMod, Nat.reduceDiv, slot_neg, slot_pos, T.ag_3, T.eb_33, T.es_22, T.ez_33, T.gf_10, T.gf_11, T.gf_12, T.gf_8, T.gf_9, T.ib_26, T.ib_27, T.ib_3, T.ii_22, T.ii_26, T.ii_3, T.ip_26, T.ip_27, T.ip_3, T.pl_32, T.s8_22, T.s8_26, T.s8_3, T.sl_22, T.sl_26, T.sl_3, T.st_22, T.st_26, T.st_3, T.un_22, T.un_26, T.un_3, T.zo_32, init_a])
  refine (New_lv H0 H0 (Upd.refl _ _)).mono fun u H1 ⟨p, e1, hL⟩ => ?_
  subst e1
  obtain ⟨A0, st0, e0⟩ := hN1.len
  simp (config := { dsimp := false, maxSteps := 10000000 }) (disch := omega) only [go_sem, reduceIte, Nat.reduceEqDiff, reduceCtorEq, Nat.reduceAdd, Nat.reduceMul, Int.reduceToNat, Int.reduceLE, Int.reduceLT, Int.reduceEq, Int.reduceNe, Nat.reduceLeDiff, Int.reducePow, Nat.reducePow, Nat.reduceLT, Nat.reduceSub, Nat.reduceMod, Nat.reduceDiv, slot_neg, slot_pos, T.ag_3, T.eb_33, T.es_22, T.ez_33, T.gf_10, T.gf_11, T.gf_12, T.gf_8, T.gf_9, T.ib_26, T.ib_27, T.ib_3, T.ii_22, T.ii_26, T.ii_3, T.ip_26, T.ip_27, T.ip_3, T.pl_32, T.s8_22, T.s8_26, T.s8_3, T.sl_22, T.sl_26, T.sl_3, T.st_22, T.st_26, T.st_3, T.un_22, T.un_26, T.un_3, T.zo_32]
  (refine CodeH.seq' (CodeH.of_vc [] hm (by kernel_rfl) ?_); simp (config := { dsimp := false, maxSteps := 10000000 }) (disch := omega) only [go_sem, reduceIte, Nat.reduceEqDiff, reduceCtorEq, Nat.reduceAdd, Nat.reduceMul, Int.reduceToNat, Int.reduceLE, Int.reduceLT, Int.reduceEq, Int.reduceNe, Nat.reduceLeDiff, Int.reducePow, Nat.reducePow, Nat.reduceLT, Nat.reduceSub, Nat.reduceMod, Nat.reduceDiv, slot_neg, slot_pos, T.ag_3, T.eb_33, T.es_22, T.ez_33, T.gf_10, T.gf_11, T.gf_12, T.gf_8, T.gf_9, T.ib_26, T.ib_27, T.ib_3, T.ii_22, T.ii_26, T.ii_3, T.ip_26, T.ip_27, T.ip_3, T.pl_32, T.s8_22, T.s8_26, T.s8_3, T.sl_22, T.sl_26, T.sl_3, T.st_22, T.st_26, T.st_3, T.un_22, T.un_26, T.un_3, T.zo_32, init_a])
  (refine CodeH.seq' (CodeH.of_vc [] hm (by kernel_rfl) ?_); simp (config := { dsimp := false, maxSteps := 10000000 }) (disch := omega) only [go_sem, reduceIte, Nat.reduceEqDiff, reduceCtorEq, Nat.reduceAdd, Nat.reduceMul, Int.reduceToNat, Int.reduceLE, Int.reduceLT, Int.reduceEq, Int.reduceNe, Nat.reduceLeDiff, Int.reducePow, Nat.reducePow, Nat.reduceLT, Nat.reduceSub, Nat.reduceMod, Nat.reduceDiv, slot_neg, slot_pos, T.ag_3, T.eb_33, T.es_22, T.ez_33, T.gf_10, T.gf_11, T.gf_12, T.gf_8, T.gf_9, T.ib_26, T.ib_27, T.ib_3, T.ii_22, T.ii_26, T.ii_3, T.ip_26, T.ip_27, T.ip_3, T.pl_32, T.s8_22, T.s8_26, T.s8_3, T.sl_22, T.sl_26, T.sl_3, T.st_22, T.st_26, T.st_3, T.un_22, T.un_26, T.un_3, T.zo_32, init_a])
  refine loop_intro [] hm (fun r H => ∃ (i : Nat) (now low high : Int) (s : St), i ≤ l0.length ∧ i ≤ 60 ∧ LV H0 p s H ∧ TI i now low high s ∧ 0 ≤ now ∧ now ≤ 5000 * i ∧ (0 ≤ low ∧ low ≤ 1099511627776) ∧ (0 ≤ high ∧ high ≤ 1099511627776) ∧ r 0 = s0 ∧ r 3 = .pointer (some ⟨p, 0, none⟩) ∧ r 4 = .int .i64 now ∧ r 5 = .int .i64 low ∧ r 6 = .int .i64 high ∧ r 7 = .int .i64 i) (fun r _ => match r 7 with | .int _ i => 60 - i.toNat | _ => 0) ?_ ?_
  · exact ⟨0, 0, 1099511627776, 0, newS, by omega, by omega, hL, ti_zero, by omega, by omega, by omega, by omega, by simp [upd, initR], by simp [upd, initR], by simp [upd], by simp [upd], by simp [upd], by simp [upd]⟩
  · clear hL
    rintro r H ⟨i, now, low, high, s, hi, hi60, hL, hT, hn0, hn1, hlo, hhi, q0, q3, q4, q5, q6, q7⟩
    by_cases hlt : i < l0.length
    · have hlt' : ((i : Int) < (l0.length : Int)) = True := eq_true (by omega)
      by_cases h60 : i < 60
      · have h60' : ((i : Int) < 60) = True := eq_true (by omega)
        have hx : l0[i]? = some l0[i] := List.getElem?_eq_getElem hlt
        have hN2 := hN1.upd hL.is
        obtain ⟨q, off, vs, o, d1, d2, d3⟩ := hN2.at hx
        generalize l0[i] = x at hx d3
        obtain ⟨k, hk, ek⟩ := modm x 5000 (by omega)
        have w1 : IntKind.i64.wrap ((i : Int) + 1) = ((i + 1 : Nat) : Int) := by rw [i64wrap] <;> omega
        have w2 : IntKind.i64.wrap (now + (k : Int)) = now + k := i64wrap (by omega) (by omega)
        have hokS := ti_sent hT h60 (by omega)
        obtain ⟨t1, t2⟩ := ti_step hT h60 ⟨hn0, by omega⟩ (n := (k : Int)) ⟨by omega, hk⟩
        have hok1 := hT.ok.sent (asks := true) (by rw [hT.waits]; simp) hokS
        simp (config := { dsimp := false, maxSteps := 10000000 }) (disch := omega) only [go_sem, reduceIte, Nat.reduceEqDiff, reduceCtorEq, Nat.reduceAdd, Nat.reduceMul, Int.reduceToNat, Int.reduceLE, Int.reduceLT, Int.reduceEq, Int.reduceNe, Nat.reduceLeDiff, Int.reducePow, Nat.reducePow, Nat.reduceLT, Nat.reduceSub, Nat.reduceMod, Nat.reduceDiv, slot_neg, slot_pos, T.ag_3, T.eb_33, T.es_22, T.ez_33, T.gf_10, T.gf_11, T.gf_12, T.gf_8, T.gf_9, T.ib_26, T.ib_27, T.ib_3, T.ii_22, T.ii_26, T.ii_3, T.ip_26, T.ip_27, T.ip_3, T.pl_32, T.s8_22, T.s8_26, T.s8_3, T.sl_22, T.sl_26, T.sl_3, T.st_22, T.st_26, T.st_3, T.un_22, T.un_26, T.un_3, T.zo_32, q0, q3, q4, q5, q6, q7, d1, d2, d3, hlt', h60', ek]
        refine (Sent_lv i 100 now true hL hT.ok (by rw [hT.waits]; simp) hokS).mono fun u H2 ⟨e2, hL2⟩ => ?_
        subst e2
        simp (config := { dsimp := false, maxSteps := 10000000 }) (disch := omega) only [go_sem, reduceIte, Nat.reduceEqDiff, reduceCtorEq, Nat.reduceAdd, Nat.reduceMul, Int.reduceToNat, Int.reduceLE, Int.reduceLT, Int.reduceEq, Int.reduceNe, Nat.reduceLeDiff, Int.reducePow, Nat.reducePow, Nat.reduceLT, Nat.reduceSub, Nat.reduceMod, Nat.reduceDiv, slot_neg, slot_pos, T.ag_3, T.eb_33, T.es_22, T.ez_33, T.gf_10, T.gf_11, T.gf_12, T.gf_8, T.gf_9, T.ib_26, T.ib_27, T.ib_3, T.ii_22, T.ii_26, T.ii_3, T.ip_26, T.ip_27, T.ip_3, T.pl_32, T.s8_22, T.s8_26, T.s8_3, T.sl_22, T.sl_26, T.sl_3, T.st_22, T.st_26, T.st_3, T.un_22, T.un_26, T.un_3, T.zo_32, q0, q3, q4, q5, q6, q7, w2]
        refine (Acked_lv 0 (now + k) hL2 (Upd.alloc _ _ []) hok1 (one_span H2 i i) (fun A n st e => by cases e; exact ⟨Nat.le_refl _, Nat.lt_succ_self _⟩) (by simp)).mono fun u H3 ⟨v1, v2, e3, n1, n2, hL3⟩ => ?_
        rw [t1] at e3
        obtain ⟨A1, st1, b1⟩ := n1.len
        obtain ⟨A2, st2, b2⟩ := n2.len
        generalize (ackS (sentS s i 100 true now) [⟨(i : Int), (i : Int)⟩] 0 (now + k)).1 = s6 at *
        subst e3
        simp (config := { dsimp := false, maxSteps := 10000000 }) (disch := omega) only [go_sem, reduceIte, Nat.reduceEqDiff, reduceCtorEq, Nat.reduceAdd, Nat.reduceMul, Int.reduceToNat, Int.reduceLE, Int.reduceLT, Int.reduceEq, Int.reduceNe, Nat.reduceLeDiff, Int.reducePow, Nat.reducePow, Nat.reduceLT, Nat.reduceSub, Nat.reduceMod, Nat.reduceDiv, slot_neg, slot_pos, T.ag_3, T.eb_33, T.es_22, T.ez_33, T.gf_10, T.gf_11, T.gf_12, T.gf_8, T.gf_9, T.ib_26, T.ib_27, T.ib_3, T.ii_22, T.ii_26, T.ii_3, T.ip_26, T.ip_27, T.ip_3, T.pl_32, T.s8_22, T.s8_26, T.s8_3, T.sl_22, T.sl_26, T.sl_3, T.st_22, T.st_26, T.st_3, T.un_22, T.un_26, T.un_3, T.zo_32, q0, q3, q4, q5, q6, q7, minl, maxl]
        refine CallsH.pure _ rfl (Trip_ph _ p s6 hL3.view.ro) ?_
        obtain ⟨f1, f2, f3, f4, f5, f6, f7⟩ := t2.later (by omega)
        have m1 : 0 ≤ min low (k : Int) ∧ min low (k : Int) ≤ 1099511627776 := by omega
        have m2 : 0 ≤ max high (k : Int) ∧ max high (k : Int) ≤ 1099511627776 := by omega
        generalize hlo2 : min low (k : Int) = lo at *
        generalize hhi2 : max high (k : Int) = hi2 at *
        have w8 : IntKind.i64.wrap (lo - 8) = lo - 8 := i64wrap (by omega) (by omega)
        have c1 : (s6.smooth < lo - 8) = False := eq_false (by omega)
        have c2 : (hi2 < s6.smooth) = False := eq_false (by omega)
        have c3 : (s6.vary < 0) = False := eq_false (by omega)
        have c4 : (hi2 < s6.vary) = False := eq_false (by omega)
        by_cases hlh : lo = hi2
        · have c6 : (lo = hi2) = True := eq_true hlh
          have c5 : (s6.smooth = lo) = True := eq_true (by omega)
          simp (config := { dsimp := false }) only [go_sem, reduceIte, Nat.reduceEqDiff, reduceCtorEq, Nat.reduceAdd, Nat.reduceMul, Int.reduceToNat, Int.reduceLE, Int.reduceLT, Int.reduceEq, Int.reduceNe, Nat.reduceLeDiff, Int.reducePow, Nat.reducePow, Nat.reduceLT, Nat.reduceSub, Nat.reduceMod, Nat.reduceDiv, T.ag_3, T.eb_33, T.es_22, T.ez_33, T.gf_10, T.gf_11, T.gf_12, T.gf_8, T.gf_9, T.ib_26, T.ib_27, T.ib_3, T.ii_22, T.ii_26, T.ii_3, T.ip_26, T.ip_27, T.ip_3, T.pl_32, T.s8_22, T.s8_26, T.s8_3, T.sl_22, T.sl_26, T.sl_3, T.st_22, T.st_26, T.st_3, T.un_22, T.un_26, T.un_3, T.zo_32, q0, q3, q4, q5, q6, q7, w1, w8, c1, c2, c3, c4, c6, c5]
          exact ⟨⟨i + 1, now + k, lo, hi2, s6, by omega, by omega, hL3, t2, by omega, by omega, m1, m2, rfl, rfl, rfl, rfl⟩, by omega⟩
        · have c6 : (lo = hi2) = False := eq_false hlh
          simp (config := { dsimp := false }) only [go_sem, reduceIte, Nat.reduceEqDiff, reduceCtorEq, Nat.reduceAdd, Nat.reduceMul, Int.reduceToNat, Int.reduceLE, Int.reduceLT, Int.reduceEq, Int.reduceNe, Nat.reduceLeDiff, Int.reducePow, Nat.reducePow, Nat.reduceLT, Nat.reduceSub, Nat.reduceMod, Nat.reduceDiv, T.ag_3, T.eb_33, T.es_22, T.ez_33, T.gf_10, T.gf_11, T.gf_12, T.gf_8, T.gf_9, T.ib_26, T.ib_27, T.ib_3, T.ii_22, T.ii_26, T.ii_3, T.ip_26, T.ip_27, T.ip_3, T.pl_32, T.s8_22, T.s8_26, T.s8_3, T.sl_22, T.sl_26, T.sl_3, T.st_22, T.st_26, T.st_3, T.un_22, T.un_26, T.un_3, T.zo_32, q0, q3, q4, q5, q6, q7, w1, w8, c1, c2, c3, c4, c6]
          exact ⟨⟨i + 1, now + k, lo, hi2, s6, by omega, by omega, hL3, t2, by omega, by omega, m1, m2, rfl, rfl, rfl, rfl⟩, by omega⟩
      · have h60' : ((i : Int) < 60) = False := eq_false (by omega)
        obtain ⟨A, st, d1⟩ := hN1.len
        simp (config := { dsimp := false, maxSteps := 10000000 }) (disch := omega) only [go_sem, reduceIte, Nat.reduceEqDiff, reduceCtorEq, Nat.reduceAdd, Nat.reduceMul, Int.reduceToNat, Int.reduceLE, Int.reduceLT, Int.reduceEq, Int.reduceNe, Nat.reduceLeDiff, Int.reducePow, Nat.reducePow, Nat.reduceLT, Nat.reduceSub, Nat.reduceMod, Nat.reduceDiv, slot_neg, slot_pos, T.ag_3, T.eb_33, T.es_22, T.ez_33, T.gf_10, T.gf_11, T.gf_12, T.gf_8, T.gf_9, T.ib_26, T.ib_27, T.ib_3, T.ii_22, T.ii_26, T.ii_3, T.ip_26, T.ip_27, T.ip_3, T.pl_32, T.s8_22, T.s8_26, T.s8_3, T.sl_22, T.sl_26, T.sl_3, T.st_22, T.st_26, T.st_3, T.un_22, T.un_26, T.un_3, T.zo_32, q0, q3, q7, d1, hlt', h60']
        (refine CodeH.of_vc [] hm (by kernel_rfl) ?_; simp (config := { dsimp := false, maxSteps := 10000000 }) (disch := omega) only [go_sem, reduceIte, Nat.reduceEqDiff, reduceCtorEq, Nat.reduceAdd, Nat.reduceMul, Int.reduceToNat, Int.reduceLE, Int.reduceLT, Int.reduceEq, Int.reduceNe, Nat.reduceLeDiff, Int.reducePow, Nat.reducePow, Nat.reduceLT, Nat.reduceSub, Nat.reduceMod, Nat.reduceDiv, slot_neg, slot_pos, T.ag_3, T.eb_33, T.es_22, T.ez_33, T.gf_10, T.gf_11, T.gf_12, T.gf_8, T.gf_9, T.ib_26, T.ib_27, T.ib_3, T.ii_22, T.ii_26, T.ii_3, T.ip_26, T.ip_27, T.ip_3, T.pl_32, T.s8_22, T.s8_26, T.s8_3, T.sl_22, T.sl_26, T.sl_3, T.st_22, T.st_26, T.st_3, T.un_22, T.un_26, T.un_3, T.zo_32, init_a])
    · have hlt' : ((i : Int) < (l0.length : Int)) = False := eq_false (by omega)
      obtain ⟨A, st, d1⟩ := hN1.len
      simp (config := { dsimp := false, maxSteps := 10000000 }) (disch := omega) only [go_sem, reduceIte, Nat.reduceEqDiff, reduceCtorEq, Nat.reduceAdd, Nat.reduceMul, Int.reduceToNat, Int.reduceLE, Int.reduceLT, Int.reduceEq, Int.reduceNe, Nat.reduceLeDiff, Int.reducePow, Nat.reducePow, Nat.reduceLT, Nat.reduceSub, Nat.reduceMod, Nat.reduceDiv, slot_neg, slot_pos, T.ag_3, T.eb_33, T.es_22, T.ez_33, T.gf_10, T.gf_11, T.gf_12, T.gf_8, T.gf_9, T.ib_26, T.ib_27, T.ib_3, T.ii_22, T.ii_26, T.ii_3, T.ip_26, T.ip_27, T.ip_3, T.pl_32, T.s8_22, T.s8_26, T.s8_3, T.sl_22, T.sl_26, T.sl_3, T.st_22, T.st_26, T.st_3, T.un_22, T.un_26, T.un_3, T.zo_32, q0, q3, q7, d1, hlt']
      (refine CodeH.of_vc [] hm (by kernel_rfl) ?_; simp (config := { dsimp := false, maxSteps := 10000000 }) (disch := omega) only [go_sem, reduceIte, Nat.reduceEqDiff, reduceCtorEq, Nat.reduceAdd, Nat.reduceMul, Int.reduceToNat, Int.reduceLE, Int.reduceLT, Int.reduceEq, Int.reduceNe, Nat.reduceLeDiff, Int.reducePow, Nat.reducePow, Nat.reduceLT, Nat.reduceSub, Nat.reduceMod, Nat.reduceDiv, slot_neg, slot_pos, T.ag_3, T.eb_33, T.es_22, T.ez_33, T.gf_10, T.gf_11, T.gf_12, T.gf_8, T.gf_9, T.ib_26, T.ib_27, T.ib_3, T.ii_22, T.ii_26, T.ii_3, T.ip_26, T.ip_27, T.ip_3, T.pl_32, T.s8_22, T.s8_26, T.s8_3, T.sl_22, T.sl_26, T.sl_3, T.st_22, T.st_26, T.st_3, T.un_22, T.un_26, T.un_3, T.zo_32, init_a])
end Ph
