import Derived.Test.YtcbgjjbbeeoekaaDoorM5
set_option maxRecDepth 100000
set_option maxHeartbeats 4000000
set_option linter.unusedSimpArgs false
set_option linter.unusedVariables false
namespace Ph
open Go Go.Proofs
attribute [local irreducible] Value.cells
attribute [local go_sem ↓] y_move y_assign y_pick y_nil y_bin y_un y_fa y_field y_ext y_ia y_ix y_slice y_build y_mf y_rg y_nx y_en y_mm y_lk y_mu y_del y_load y_len y_cap y_min y_max y_conv y_bs y_mk y_alloc y_box y_store y_clear y_app y_callf y_callt s_move s_assign s_pick s_nil s_bin s_un s_fa s_field s_ext s_ia s_ix s_slice s_conv s_build s_bs s_mf s_alloc s_box s_rg s_nx s_en s_mm s_lk s_mu s_del s_load s_store s_len s_clear s_cap s_min s_max s_app s_call q_call q_move q_assign q_pick q_nil q_bin q_un q_fa q_field q_ext q_ia q_ix q_slice q_conv q_build q_mf q_lk q_load q_len q_cap q_min q_max l_nil l_move l_assign l_pick l_nilc l_bin l_un l_fa l_field l_ext l_ia l_ix l_slice l_conv l_build l_mf l_lk l_load l_len l_cap l_min l_max l_call put_eq putN_eq o_nil o_plain o_gate v_nil v_plain v_gate vc_skip vc_region vc_seq vc_cond vc_block vc_loop vc_rf vc_exit vc_ret blk_normal blk_ret blk_exit on_normal on_ret on_exit vc_drawn draw_q s_mk l_bs l_mk l_rg l_nx l_en l_mm l_mu l_del l_alloc l_box l_store l_app l_clear pl_done pl_takeS pl_take pl_alt pl_stop one_plain one_gate
attribute [local go_sem] clear_nil clear_sl onAgg_a onTuple_t onFn_f onFn_y onFunc_f c_int c_nil c_sl c_str sl_sl sl_nil sl_str ix_str ix_agg n_nil n_sl n_str app_eq app_eqZ k_nil k_sl cap_n len_sl len_str len_mn len_m onMap_m onIter_i rg_n rg_m nx_p en_p lk_n lk_m up_m setM_n setM_s del_n del_m kt_s kt_i upd_some upd_none ev_tmp ev_const ev_func rd_some gdst_eq otmp_t otmp_c get_put get_alloc next_put next_alloc get_app next_app init_a resV1 resV2 onPtr_ptr onBool_b onInt_i onSlice_s onSome_s onCells_c lett_eq gate_tt gate_tf gate_ff gate_ft gate_dt gate_df also_eq bin un minmax io_none io_some bo_none bo_some partOf List.getElem?_cons_zero List.getElem?_cons_succ List.getElem?_toArray Option.map_some Option.map_none Option.bind_some ne_eq not_true_eq_false not_false_eq_true false_implies true_implies and_true true_and and_self Bool.false_eq_true Nat.zero_add Nat.add_zero List.size_toArray List.length_cons List.length_nil List.map_toArray List.map_cons List.map_nil Array.getD_eq_getD_getElem? Option.getD_some Bool.not_true Bool.not_false Bool.not_eq_true Option.isNone_some Option.isNone_none List.append_toArray List.append_nil List.nil_append List.cons_append decide_true decide_false in_nil in_cons Bool.and_false Bool.and_true Bool.or_false Bool.true_or Bool.false_or get_mask next_mask get_unmask next_unmask ac_move ac_assign ac_pick ac_nil ac_bin ac_un ac_fa ac_field ac_ext ac_ia ac_ix ac_slice ac_build ac_mf ac_call ac_len ac_lk ac_cap ac_min ac_max accM_m accM_n accM_s accM_t ac_load ac_conv accP_p accS_s accS_n accS_i accS_t fixed_ro fixed_lock fixed_own get_ro next_ro lock_live' lock_cells List.mem_cons List.not_mem_nil or_false false_or or_true true_or and_false false_and IntKind.bits Int.natCast_zero Int.natCast_one size_str data_str list_str mk_str ext_str app_str bytes_str w_byte w_byteu Int.toNat_natCast Int.toNat_zero Int.toNat_one Nat.sub_zero ge_iff_le gt_iff_lt Nat.le_refl Int.le_refl List.drop_zero Int.ofNat_eq_natCast Int.natCast_nonneg Int.sub_zero oc_int oc_bool oc_str oc_ptr oc_sl oc_map oc_func List.set_cons_zero List.set_cons_succ Nat.mul_one List.all_cons List.all_nil Bool.and_self res_nil res_tmp res_cell tup_one tup_two tup_nil fill_nil repl_zero cells_agg List.append_eq List.toList_toArray Nat.zero_mul Nat.one_mul repl_one repl_two onSome_build fill_cons onSome_lit splice_eq cells_int cells_bool cells_str cells_ptr cells_sl cells_map cells_func loadK_n loadK_s load_k storeK_n storeK_s store_k all_arr List.take_zero List.take_succ_cons List.drop_succ_cons List.take_nil List.drop_nil lk_own lk_ro lk_lock lk_lk fixed_lk gate_nt gate_nf gate3_b gate3_u undef Bool.true_and Bool.false_and nx_l nx_r nx_lt put_put resV0
attribute [local go_sem] str_inj size_str
/-! The document: is a record right? -/
theorem DocRight_ph (h : Heap) (r : Rec) (h1 : r.1.length ≤ 1099511627776) (h2 : r.2.2.2.length ≤ 1099511627776) : @CallsH Tryd.prog 10 #[.agg (recE.enc r).toArray] h ⟨fun u H => u = .bool (recOk r) ∧ Upd h H []⟩ := by
  obtain ⟨nm, ty, tl, da⟩ := r
  show @CallsH _ _ #[.agg #[.string (str nm), .int .i64 ty, .int .i64 tl, .string (str da)]] h ⟨_⟩
  unfold recOk
  dsimp only at h1 h2 ⊢
  have hU0 : Upd h (h.alloc (.cells [.string (str nm), .int .i64 ty, .int .i64 tl, .string (str da)] .own)) [] := Upd.alloc _ _ _
  (refine calls_of_vc [] hm Tryd.func10 rfl (ts := [2]) rfl (by kernel_rfl) (by simp) ?_; simp (config := { dsimp := false, maxSteps := 10000000 }) (disch := omega) only [go_sem, reduceIte, Nat.reduceEqDiff, reduceCtorEq, Nat.reduceAdd, Nat.reduceMul, Int.reduceToNat, Int.reduceLE, Int.reduceLT, Int.reduceEq, Int.reduceNe, Nat.reduceLeDiff, Int.reducePow, Nat.reducePow, Nat.reduceLT, Nat.reduceSub, Nat.reduceMod, Nat.reduceDiv, slot_neg, slot_pos, T.ag_3, T.ag_9, T.es_9, T.fo_23_0, T.fo_23_1, T.fo_23_2, T.fo_23_3, T.gf_17, T.gf_18, T.ib_3, T.ib_9, T.ii_3, T.ii_5, T.ii_9, T.ip_3, T.ip_9, T.s8_3, T.s8_5, T.s8_9, T.sl_3, T.sl_5, T.sl_9, T.st_3, T.st_5, T.st_9, T.un_3, T.un_5, T.un_9, init_a])
  refine (Right_ph _ nm (by omega)).mono fun u H ⟨hu, hU1⟩ => ?_
  subst hu
  have hU := hU0.trans hU1 (by simp)
  have hg : H.get h.next = .live (.cells [.string (str nm), .int .i64 ty, .int .i64 tl, .string (str da)] .own) := (hU1.2 h.next (Nat.lt_succ_self _) (by simp)).trans (by rw [get_alloc, if_pos rfl])
  cases hn : (nameOf nm).isSome with
  | false =>
    simp (config := { dsimp := false, maxSteps := 10000000 }) (disch := omega) only [go_sem, reduceIte, Nat.reduceEqDiff, reduceCtorEq, Nat.reduceAdd, Nat.reduceMul, Int.reduceToNat, Int.reduceLE, Int.reduceLT, Int.reduceEq, Int.reduceNe, Nat.reduceLeDiff, Int.reducePow, Nat.reducePow, Nat.reduceLT, Nat.reduceSub, Nat.reduceMod, Nat.reduceDiv, slot_neg, slot_pos, T.ag_3, T.ag_9, T.es_9, T.fo_23_0, T.fo_23_1, T.fo_23_2, T.fo_23_3, T.gf_17, T.gf_18, T.ib_3, T.ib_9, T.ii_3, T.ii_5, T.ii_9, T.ip_3, T.ip_9, T.s8_3, T.s8_5, T.s8_9, T.sl_3, T.sl_5, T.sl_9, T.st_3, T.st_5, T.st_9, T.un_3, T.un_5, T.un_9, hg]
    exact hU
  | true =>
  by_cases hall : (1 ≤ ty ∧ ty ≤ 65535) ∧ (0 ≤ tl ∧ tl ≤ 2147483647) ∧ da.length ≤ 1000
  · obtain ⟨⟨a1, a2⟩, ⟨a3, a4⟩, a5⟩ := hall
    have b1 : (ty < 1) = False := eq_false (by omega)
    have b2 : ((65535 : Int) < ty) = False := eq_false (by omega)
    have b3 : (tl < 0) = False := eq_false (by omega)
    have b4 : ((2147483647 : Int) < tl) = False := eq_false (by omega)
    have b5 : ((1000 : Int) < (da.length : Int)) = False := eq_false (by omega)
    have e : (decide (1 ≤ ty ∧ ty ≤ 65535) && (decide (0 ≤ tl ∧ tl ≤ 2147483647) && (decide (da.length ≤ 1000) && rightD ty da))) = rightD ty da := by simp [a1, a2, a3, a4, a5]
    rw [Bool.true_and, e]
    have hpl := plainN_le da
    unfold rightD
    by_cases k1 : ty = 1
    · subst k1
      simp (config := { dsimp := false, maxSteps := 10000000 }) (disch := omega) only [go_sem, reduceIte, Nat.reduceEqDiff, reduceCtorEq, Nat.reduceAdd, Nat.reduceMul, Int.reduceToNat, Int.reduceLE, Int.reduceLT, Int.reduceEq, Int.reduceNe, Nat.reduceLeDiff, Int.reducePow, Nat.reducePow, Nat.reduceLT, Nat.reduceSub, Nat.reduceMod, Nat.reduceDiv, slot_neg, slot_pos, T.ag_3, T.ag_9, T.es_9, T.fo_23_0, T.fo_23_1, T.fo_23_2, T.fo_23_3, T.gf_17, T.gf_18, T.ib_3, T.ib_9, T.ii_3, T.ii_5, T.ii_9, T.ip_3, T.ip_9, T.s8_3, T.s8_5, T.s8_9, T.sl_3, T.sl_5, T.sl_9, T.st_3, T.st_5, T.st_9, T.un_3, T.un_5, T.un_9, hg, b3, b4, b5]
      exact ⟨congrArg Value.bool (decide_eq_decide.2 (by omega)), hU⟩
    rw [if_neg k1]
    have f1 := eq_false k1
    by_cases k28 : ty = 28
    · subst k28
      simp (config := { dsimp := false, maxSteps := 10000000 }) (disch := omega) only [go_sem, reduceIte, Nat.reduceEqDiff, reduceCtorEq, Nat.reduceAdd, Nat.reduceMul, Int.reduceToNat, Int.reduceLE, Int.reduceLT, Int.reduceEq, Int.reduceNe, Nat.reduceLeDiff, Int.reducePow, Nat.reducePow, Nat.reduceLT, Nat.reduceSub, Nat.reduceMod, Nat.reduceDiv, slot_neg, slot_pos, T.ag_3, T.ag_9, T.es_9, T.fo_23_0, T.fo_23_1, T.fo_23_2, T.fo_23_3, T.gf_17, T.gf_18, T.ib_3, T.ib_9, T.ii_3, T.ii_5, T.ii_9, T.ip_3, T.ip_9, T.s8_3, T.s8_5, T.s8_9, T.sl_3, T.sl_5, T.sl_9, T.st_3, T.st_5, T.st_9, T.un_3, T.un_5, T.un_9, hg, b3, b4, b5]
      exact ⟨congrArg Value.bool (decide_eq_decide.2 (by omega)), hU⟩
    rw [if_neg k28]
    have f28 := eq_false k28
    by_cases k25 : ty = 2 ∨ ty = 5
    · rw [if_pos k25]
      by_cases h0 : 0 < plainN da
      · have c0 : ((0 : Int) < (plainN da : Int)) = True := eq_true (by omega)
        rcases k25 with k2 | k5
        · subst k2
          simp (config := { dsimp := false, maxSteps := 10000000 }) (disch := omega) only [go_sem, reduceIte, Nat.reduceEqDiff, reduceCtorEq, Nat.reduceAdd, Nat.reduceMul, Int.reduceToNat, Int.reduceLE, Int.reduceLT, Int.reduceEq, Int.reduceNe, Nat.reduceLeDiff, Int.reducePow, Nat.reducePow, Nat.reduceLT, Nat.reduceSub, Nat.reduceMod, Nat.reduceDiv, slot_neg, slot_pos, T.ag_3, T.ag_9, T.es_9, T.fo_23_0, T.fo_23_1, T.fo_23_2, T.fo_23_3, T.gf_17, T.gf_18, T.ib_3, T.ib_9, T.ii_3, T.ii_5, T.ii_9, T.ip_3, T.ip_9, T.s8_3, T.s8_5, T.s8_9, T.sl_3, T.sl_5, T.sl_9, T.st_3, T.st_5, T.st_9, T.un_3, T.un_5, T.un_9, hg, b3, b4, b5]
          refine (plainD_ph H da (by omega)).mono fun u H2 ⟨hu, hU2⟩ => ?_
          subst hu
          simp (config := { dsimp := false, maxSteps := 10000000 }) (disch := omega) only [go_sem, reduceIte, Nat.reduceEqDiff, reduceCtorEq, Nat.reduceAdd, Nat.reduceMul, Int.reduceToNat, Int.reduceLE, Int.reduceLT, Int.reduceEq, Int.reduceNe, Nat.reduceLeDiff, Int.reducePow, Nat.reducePow, Nat.reduceLT, Nat.reduceSub, Nat.reduceMod, Nat.reduceDiv, slot_neg, slot_pos, T.ag_3, T.ag_9, T.es_9, T.fo_23_0, T.fo_23_1, T.fo_23_2, T.fo_23_3, T.gf_17, T.gf_18, T.ib_3, T.ib_9, T.ii_3, T.ii_5, T.ii_9, T.ip_3, T.ip_9, T.s8_3, T.s8_5, T.s8_9, T.sl_3, T.sl_5, T.sl_9, T.st_3, T.st_5, T.st_9, T.un_3, T.un_5, T.un_9, c0]
          exact ⟨congrArg Value.bool (decide_eq_decide.2 (by omega)), hU.trans hU2 (by simp)⟩
        · subst k5
          simp (config := { dsimp := false, maxSteps := 10000000 }) (disch := omega) only [go_sem, reduceIte, Nat.reduceEqDiff, reduceCtorEq, Nat.reduceAdd, Nat.reduceMul, Int.reduceToNat, Int.reduceLE, Int.reduceLT, Int.reduceEq, Int.reduceNe, Nat.reduceLeDiff, Int.reducePow, Nat.reducePow, Nat.reduceLT, Nat.reduceSub, Nat.reduceMod, Nat.reduceDiv, slot_neg, slot_pos, T.ag_3, T.ag_9, T.es_9, T.fo_23_0, T.fo_23_1, T.fo_23_2, T.fo_23_3, T.gf_17, T.gf_18, T.ib_3, T.ib_9, T.ii_3, T.ii_5, T.ii_9, T.ip_3, T.ip_9, T.s8_3, T.s8_5, T.s8_9, T.sl_3, T.sl_5, T.sl_9, T.st_3, T.st_5, T.st_9, T.un_3, T.un_5, T.un_9, hg, b3, b4, b5]
          refine (plainD_ph H da (by omega)).mono fun u H2 ⟨hu, hU2⟩ => ?_
          subst hu
          simp (config := { dsimp := false, maxSteps := 10000000 }) (disch := omega) only [go_sem, reduceIte, Nat.reduceEqDiff, reduceCtorEq, Nat.reduceAdd, Nat.reduceMul, Int.reduceToNat, Int.reduceLE, Int.reduceLT, Int.reduceEq, Int.reduceNe, Nat.reduceLeDiff, Int.reducePow, Nat.reducePow, Nat.reduceLT, Nat.reduceSub, Nat.reduceMod, Nat.reduceDiv, slot_neg, slot_pos, T.ag_3, T.ag_9, T.es_9, T.fo_23_0, T.fo_23_1, T.fo_23_2, T.fo_23_3, T.gf_17, T.gf_18, T.ib_3, T.ib_9, T.ii_3, T.ii_5, T.ii_9, T.ip_3, T.ip_9, T.s8_3, T.s8_5, T.s8_9, T.sl_3, T.sl_5, T.sl_9, T.st_3, T.st_5, T.st_9, T.un_3, T.un_5, T.un_9, c0]
          exact ⟨congrArg Value.bool (decide_eq_decide.2 (by omega)), hU.trans hU2 (by simp)⟩
      · have c0 : ((0 : Int) < (plainN da : Int)) = False := eq_false (by omega)
        rcases k25 with k2 | k5
        · subst k2
          simp (config := { dsimp := false, maxSteps := 10000000 }) (disch := omega) only [go_sem, reduceIte, Nat.reduceEqDiff, reduceCtorEq, Nat.reduceAdd, Nat.reduceMul, Int.reduceToNat, Int.reduceLE, Int.reduceLT, Int.reduceEq, Int.reduceNe, Nat.reduceLeDiff, Int.reducePow, Nat.reducePow, Nat.reduceLT, Nat.reduceSub, Nat.reduceMod, Nat.reduceDiv, slot_neg, slot_pos, T.ag_3, T.ag_9, T.es_9, T.fo_23_0, T.fo_23_1, T.fo_23_2, T.fo_23_3, T.gf_17, T.gf_18, T.ib_3, T.ib_9, T.ii_3, T.ii_5, T.ii_9, T.ip_3, T.ip_9, T.s8_3, T.s8_5, T.s8_9, T.sl_3, T.sl_5, T.sl_9, T.st_3, T.st_5, T.st_9, T.un_3, T.un_5, T.un_9, hg, b3, b4, b5]
          refine (plainD_ph H da (by omega)).mono fun u H2 ⟨hu, hU2⟩ => ?_
          subst hu
          simp (config := { dsimp := false, maxSteps := 10000000 }) (disch := omega) only [go_sem, reduceIte, Nat.reduceEqDiff, reduceCtorEq, Nat.reduceAdd, Nat.reduceMul, Int.reduceToNat, Int.reduceLE, Int.reduceLT, Int.reduceEq, Int.reduceNe, Nat.reduceLeDiff, Int.reducePow, Nat.reducePow, Nat.reduceLT, Nat.reduceSub, Nat.reduceMod, Nat.reduceDiv, slot_neg, slot_pos, T.ag_3, T.ag_9, T.es_9, T.fo_23_0, T.fo_23_1, T.fo_23_2, T.fo_23_3, T.gf_17, T.gf_18, T.ib_3, T.ib_9, T.ii_3, T.ii_5, T.ii_9, T.ip_3, T.ip_9, T.s8_3, T.s8_5, T.s8_9, T.sl_3, T.sl_5, T.sl_9, T.st_3, T.st_5, T.st_9, T.un_3, T.un_5, T.un_9, c0]
          exact ⟨congrArg Value.bool (decide_eq_false (by omega)).symm, hU.trans hU2 (by simp)⟩
        · subst k5
          simp (config := { dsimp := false, maxSteps := 10000000 }) (disch := omega) only [go_sem, reduceIte, Nat.reduceEqDiff, reduceCtorEq, Nat.reduceAdd, Nat.reduceMul, Int.reduceToNat, Int.reduceLE, Int.reduceLT, Int.reduceEq, Int.reduceNe, Nat.reduceLeDiff, Int.reducePow, Nat.reducePow, Nat.reduceLT, Nat.reduceSub, Nat.reduceMod, Nat.reduceDiv, slot_neg, slot_pos, T.ag_3, T.ag_9, T.es_9, T.fo_23_0, T.fo_23_1, T.fo_23_2, T.fo_23_3, T.gf_17, T.gf_18, T.ib_3, T.ib_9, T.ii_3, T.ii_5, T.ii_9, T.ip_3, T.ip_9, T.s8_3, T.s8_5, T.s8_9, T.sl_3, T.sl_5, T.sl_9, T.st_3, T.st_5, T.st_9, T.un_3, T.un_5, T.un_9, hg, b3, b4, b5]
          refine (plainD_ph H da (by omega)).mono fun u H2 ⟨hu, hU2⟩ => ?_
          subst hu
          simp (config := { dsimp := false, maxSteps := 10000000 }) (disch := omega) only [go_sem, reduceIte, Nat.reduceEqDiff, reduceCtorEq, Nat.reduceAdd, Nat.reduceMul, Int.reduceToNat, Int.reduceLE, Int.reduceLT, Int.reduceEq, Int.reduceNe, Nat.reduceLeDiff, Int.reducePow, Nat.reducePow, Nat.reduceLT, Nat.reduceSub, Nat.reduceMod, Nat.reduceDiv, slot_neg, slot_pos, T.ag_3, T.ag_9, T.es_9, T.fo_23_0, T.fo_23_1, T.fo_23_2, T.fo_23_3, T.gf_17, T.gf_18, T.ib_3, T.ib_9, T.ii_3, T.ii_5, T.ii_9, T.ip_3, T.ip_9, T.s8_3, T.s8_5, T.s8_9, T.sl_3, T.sl_5, T.sl_9, T.st_3, T.st_5, T.st_9, T.un_3, T.un_5, T.un_9, c0]
          exact ⟨congrArg Value.bool (decide_eq_false (by omega)).symm, hU.trans hU2 (by simp)⟩
    rw [if_neg k25]
    have f2 : (ty = 2) = False := eq_false fun e => k25 (.inl e)
    have f5 : (ty = 5) = False := eq_false fun e => k25 (.inr e)
    by_cases k15 : ty = 15
    · subst k15
      by_cases h0 : 2 < da.length
      · have c0 : ((2 : Int) < (da.length : Int)) = True := eq_true (by omega)
        have ws : IntKind.i64.wrap ((da.length : Int) - 2) = ((da.length - 2 : Nat) : Int) := by rw [i64wrap] <;> omega
        have htk : List.take (da.length - 2) (List.drop 2 da) = da.drop 2 := List.take_of_length_le (by rw [List.length_drop]; exact Nat.le_refl _)
        simp (config := { dsimp := false, maxSteps := 10000000 }) (disch := omega) only [go_sem, reduceIte, Nat.reduceEqDiff, reduceCtorEq, Nat.reduceAdd, Nat.reduceMul, Int.reduceToNat, Int.reduceLE, Int.reduceLT, Int.reduceEq, Int.reduceNe, Nat.reduceLeDiff, Int.reducePow, Nat.reducePow, Nat.reduceLT, Nat.reduceSub, Nat.reduceMod, Nat.reduceDiv, slot_neg, slot_pos, T.ag_3, T.ag_9, T.es_9, T.fo_23_0, T.fo_23_1, T.fo_23_2, T.fo_23_3, T.gf_17, T.gf_18, T.ib_3, T.ib_9, T.ii_3, T.ii_5, T.ii_9, T.ip_3, T.ip_9, T.s8_3, T.s8_5, T.s8_9, T.sl_3, T.sl_5, T.sl_9, T.st_3, T.st_5, T.st_9, T.un_3, T.un_5, T.un_9, hg, b3, b4, b5, c0, htk]
        refine ⟨by omega, (plainD_ph H (da.drop 2) (by rw [List.length_drop]; omega)).mono fun u H2 ⟨hu, hU2⟩ => ?_⟩
        subst hu
        simp (config := { dsimp := false, maxSteps := 10000000 }) (disch := omega) only [go_sem, reduceIte, Nat.reduceEqDiff, reduceCtorEq, Nat.reduceAdd, Nat.reduceMul, Int.reduceToNat, Int.reduceLE, Int.reduceLT, Int.reduceEq, Int.reduceNe, Nat.reduceLeDiff, Int.reducePow, Nat.reducePow, Nat.reduceLT, Nat.reduceSub, Nat.reduceMod, Nat.reduceDiv, slot_neg, slot_pos, T.ag_3, T.ag_9, T.es_9, T.fo_23_0, T.fo_23_1, T.fo_23_2, T.fo_23_3, T.gf_17, T.gf_18, T.ib_3, T.ib_9, T.ii_3, T.ii_5, T.ii_9, T.ip_3, T.ip_9, T.s8_3, T.s8_5, T.s8_9, T.sl_3, T.sl_5, T.sl_9, T.st_3, T.st_5, T.st_9, T.un_3, T.un_5, T.un_9, ws]
        exact ⟨congrArg Value.bool (decide_eq_decide.2 (by omega)), hU.trans hU2 (by simp)⟩
      · have c0 : ((2 : Int) < (da.length : Int)) = False := eq_false (by omega)
        simp (config := { dsimp := false, maxSteps := 10000000 }) (disch := omega) only [go_sem, reduceIte, Nat.reduceEqDiff, reduceCtorEq, Nat.reduceAdd, Nat.reduceMul, Int.reduceToNat, Int.reduceLE, Int.reduceLT, Int.reduceEq, Int.reduceNe, Nat.reduceLeDiff, Int.reducePow, Nat.reducePow, Nat.reduceLT, Nat.reduceSub, Nat.reduceMod, Nat.reduceDiv, slot_neg, slot_pos, T.ag_3, T.ag_9, T.es_9, T.fo_23_0, T.fo_23_1, T.fo_23_2, T.fo_23_3, T.gf_17, T.gf_18, T.ib_3, T.ib_9, T.ii_3, T.ii_5, T.ii_9, T.ip_3, T.ip_9, T.s8_3, T.s8_5, T.s8_9, T.sl_3, T.sl_5, T.sl_9, T.st_3, T.st_5, T.st_9, T.un_3, T.un_5, T.un_9, hg, b3, b4, b5, c0]
        exact ⟨congrArg Value.bool (decide_eq_false (by omega)).symm, hU⟩
    rw [if_neg k15]
    have f15 := eq_false k15
    by_cases k6 : ty = 6
    · subst k6
      simp (config := { dsimp := false, maxSteps := 10000000 }) (disch := omega) only [go_sem, reduceIte, Nat.reduceEqDiff, reduceCtorEq, Nat.reduceAdd, Nat.reduceMul, Int.reduceToNat, Int.reduceLE, Int.reduceLT, Int.reduceEq, Int.reduceNe, Nat.reduceLeDiff, Int.reducePow, Nat.reducePow, Nat.reduceLT, Nat.reduceSub, Nat.reduceMod, Nat.reduceDiv, slot_neg, slot_pos, T.ag_3, T.ag_9, T.es_9, T.fo_23_0, T.fo_23_1, T.fo_23_2, T.fo_23_3, T.gf_17, T.gf_18, T.ib_3, T.ib_9, T.ii_3, T.ii_5, T.ii_9, T.ip_3, T.ip_9, T.s8_3, T.s8_5, T.s8_9, T.sl_3, T.sl_5, T.sl_9, T.st_3, T.st_5, T.st_9, T.un_3, T.un_5, T.un_9, hg, b3, b4, b5]
      refine (plainD_ph H da (by omega)).mono fun u H2 ⟨hu, hU2⟩ => ?_
      subst hu
      by_cases hn0 : plainN da = 0
      · have c0 : ((plainN da : Int) = 0) = True := eq_true (by omega)
        simp (config := { dsimp := false, maxSteps := 10000000 }) (disch := omega) only [go_sem, reduceIte, Nat.reduceEqDiff, reduceCtorEq, Nat.reduceAdd, Nat.reduceMul, Int.reduceToNat, Int.reduceLE, Int.reduceLT, Int.reduceEq, Int.reduceNe, Nat.reduceLeDiff, Int.reducePow, Nat.reducePow, Nat.reduceLT, Nat.reduceSub, Nat.reduceMod, Nat.reduceDiv, slot_neg, slot_pos, T.ag_3, T.ag_9, T.es_9, T.fo_23_0, T.fo_23_1, T.fo_23_2, T.fo_23_3, T.gf_17, T.gf_18, T.ib_3, T.ib_9, T.ii_3, T.ii_5, T.ii_9, T.ip_3, T.ip_9, T.s8_3, T.s8_5, T.s8_9, T.sl_3, T.sl_5, T.sl_9, T.st_3, T.st_5, T.st_9, T.un_3, T.un_5, T.un_9, c0]
        exact ⟨by simp [hn0], hU.trans hU2 (by simp)⟩
      · have c0 : ((plainN da : Int) = 0) = False := eq_false (by omega)
        have htk : List.take (da.length - plainN da) (List.drop (plainN da) da) = da.drop (plainN da) := List.take_of_length_le (by rw [List.length_drop]; exact Nat.le_refl _)
        have hpl2 := plainN_le (da.drop (plainN da))
        rw [List.length_drop] at hpl2
        simp (config := { dsimp := false, maxSteps := 10000000 }) (disch := omega) only [go_sem, reduceIte, Nat.reduceEqDiff, reduceCtorEq, Nat.reduceAdd, Nat.reduceMul, Int.reduceToNat, Int.reduceLE, Int.reduceLT, Int.reduceEq, Int.reduceNe, Nat.reduceLeDiff, Int.reducePow, Nat.reducePow, Nat.reduceLT, Nat.reduceSub, Nat.reduceMod, Nat.reduceDiv, slot_neg, slot_pos, T.ag_3, T.ag_9, T.es_9, T.fo_23_0, T.fo_23_1, T.fo_23_2, T.fo_23_3, T.gf_17, T.gf_18, T.ib_3, T.ib_9, T.ii_3, T.ii_5, T.ii_9, T.ip_3, T.ip_9, T.s8_3, T.s8_5, T.s8_9, T.sl_3, T.sl_5, T.sl_9, T.st_3, T.st_5, T.st_9, T.un_3, T.un_5, T.un_9, c0, htk]
        refine ⟨by omega, (plainD_ph H2 (da.drop (plainN da)) (by rw [List.length_drop]; omega)).mono fun u H3 ⟨hu, hU3⟩ => ?_⟩
        subst hu
        have hUU := (hU.trans hU2 (by simp)).trans hU3 (by simp)
        clear htk
        generalize plainN (da.drop (plainN da)) = m2 at *
        generalize plainN da = m1 at *
        have w1 : IntKind.i64.wrap ((m1 : Int) + (m2 : Int)) = ((m1 + m2 : Nat) : Int) := by rw [i64wrap] <;> omega
        have w2 : IntKind.i64.wrap (((m1 + m2 : Nat) : Int) + 20) = ((m1 + m2 + 20 : Nat) : Int) := by rw [i64wrap] <;> omega
        by_cases h0 : 0 < m2
        · have c1 : ((0 : Int) < (m2 : Int)) = True := eq_true (by omega)
          simp (config := { dsimp := false, maxSteps := 10000000 }) (disch := omega) only [go_sem, reduceIte, Nat.reduceEqDiff, reduceCtorEq, Nat.reduceAdd, Nat.reduceMul, Int.reduceToNat, Int.reduceLE, Int.reduceLT, Int.reduceEq, Int.reduceNe, Nat.reduceLeDiff, Int.reducePow, Nat.reducePow, Nat.reduceLT, Nat.reduceSub, Nat.reduceMod, Nat.reduceDiv, slot_neg, slot_pos, T.ag_3, T.ag_9, T.es_9, T.fo_23_0, T.fo_23_1, T.fo_23_2, T.fo_23_3, T.gf_17, T.gf_18, T.ib_3, T.ib_9, T.ii_3, T.ii_5, T.ii_9, T.ip_3, T.ip_9, T.s8_3, T.s8_5, T.s8_9, T.sl_3, T.sl_5, T.sl_9, T.st_3, T.st_5, T.st_9, T.un_3, T.un_5, T.un_9, c1, w1, w2]
          exact ⟨congrArg Value.bool (decide_eq_decide.2 (by omega)), hUU⟩
        · have c1 : ((0 : Int) < (m2 : Int)) = False := eq_false (by omega)
          simp (config := { dsimp := false, maxSteps := 10000000 }) (disch := omega) only [go_sem, reduceIte, Nat.reduceEqDiff, reduceCtorEq, Nat.reduceAdd, Nat.reduceMul, Int.reduceToNat, Int.reduceLE, Int.reduceLT, Int.reduceEq, Int.reduceNe, Nat.reduceLeDiff, Int.reducePow, Nat.reducePow, Nat.reduceLT, Nat.reduceSub, Nat.reduceMod, Nat.reduceDiv, slot_neg, slot_pos, T.ag_3, T.ag_9, T.es_9, T.fo_23_0, T.fo_23_1, T.fo_23_2, T.fo_23_3, T.gf_17, T.gf_18, T.ib_3, T.ib_9, T.ii_3, T.ii_5, T.ii_9, T.ip_3, T.ip_9, T.s8_3, T.s8_5, T.s8_9, T.sl_3, T.sl_5, T.sl_9, T.st_3, T.st_5, T.st_9, T.un_3, T.un_5, T.un_9, c1, w1, w2]
          exact ⟨by simp [h0], hUU⟩
    rw [if_neg k6]
    have f6 := eq_false k6
    by_cases k16 : ty = 16
    · subst k16
      obtain ⟨z, hz⟩ : ∃ z, txtE da 0 = z := ⟨_, rfl⟩
      rw [hz]
      simp (config := { dsimp := false, maxSteps := 10000000 }) (disch := omega) only [go_sem, reduceIte, Nat.reduceEqDiff, reduceCtorEq, Nat.reduceAdd, Nat.reduceMul, Int.reduceToNat, Int.reduceLE, Int.reduceLT, Int.reduceEq, Int.reduceNe, Nat.reduceLeDiff, Int.reducePow, Nat.reducePow, Nat.reduceLT, Nat.reduceSub, Nat.reduceMod, Nat.reduceDiv, slot_neg, slot_pos, T.ag_3, T.ag_9, T.es_9, T.fo_23_0, T.fo_23_1, T.fo_23_2, T.fo_23_3, T.gf_17, T.gf_18, T.ib_3, T.ib_9, T.ii_3, T.ii_5, T.ii_9, T.ip_3, T.ip_9, T.s8_3, T.s8_5, T.s8_9, T.sl_3, T.sl_5, T.sl_9, T.st_3, T.st_5, T.st_9, T.un_3, T.un_5, T.un_9, hg, b3, b4, b5]
      refine loop_intro [] hm (fun r H2 => ∃ i : Nat, i ≤ da.length + 256 ∧ (da ≠ [] ↔ 0 < txtE da i) ∧ r 3 = .string (str da) ∧ r 7 = .int .i64 i ∧ H2 = H ∧ txtE da i = z) (fun r _ => match r 7 with | .int _ i => da.length + 256 - i.toNat | _ => 0) ?_ ?_
      · refine ⟨0, by omega, ?_, by simp [upd, initR], by simp [upd], rfl, hz⟩
        refine ⟨fun h9 => txt_pos h9, fun h9 e => ?_⟩
        rw [e, txt_end (by simp)] at h9
        exact absurd h9 (Nat.lt_irrefl _)
      · rintro r H2 ⟨i, hi, hne, q3, q7, rfl, hzi⟩
        by_cases hil : i < da.length
        · have c1 : ((i : Int) < (da.length : Int)) = True := eq_true (by omega)
          rw [txt_step hil] at hzi hne
          obtain ⟨c, hcd⟩ : ∃ c, da.getD i 0 = c := ⟨_, rfl⟩
          rw [hcd] at hzi hne
          have hc := c.toNat_lt
          have w0 : IntKind.i64.wrap (c.toNat : Int) = (c.toNat : Int) := i64wrap (by omega) (by omega)
          have w1 : IntKind.i64.wrap ((i : Int) + 1) = ((i + 1 : Nat) : Int) := by rw [i64wrap] <;> omega
          have w2 : IntKind.i64.wrap (((i + 1 : Nat) : Int) + (c.toNat : Int)) = ((i + 1 + c.toNat : Nat) : Int) := by rw [i64wrap] <;> omega
          simp (config := { dsimp := false, maxSteps := 10000000 }) (disch := omega) only [go_sem, reduceIte, Nat.reduceEqDiff, reduceCtorEq, Nat.reduceAdd, Nat.reduceMul, Int.reduceToNat, Int.reduceLE, Int.reduceLT, Int.reduceEq, Int.reduceNe, Nat.reduceLeDiff, Int.reducePow, Nat.reducePow, Nat.reduceLT, Nat.reduceSub, Nat.reduceMod, Nat.reduceDiv, slot_neg, slot_pos, T.ag_3, T.ag_9, T.es_9, T.fo_23_0, T.fo_23_1, T.fo_23_2, T.fo_23_3, T.gf_17, T.gf_18, T.ib_3, T.ib_9, T.ii_3, T.ii_5, T.ii_9, T.ip_3, T.ip_9, T.s8_3, T.s8_5, T.s8_9, T.sl_3, T.sl_5, T.sl_9, T.st_3, T.st_5, T.st_9, T.un_3, T.un_5, T.un_9, q3, q7, hcd, c1, w0, w1, w2]
          exact ⟨⟨i + 1 + c.toNat, by omega, hne, rfl, hzi⟩, by omega⟩
        · have c1 : ((i : Int) < (da.length : Int)) = False := eq_false (by omega)
          rw [txt_end hil] at hzi hne
          subst hzi
          by_cases h0 : da = []
          · have c2 := eq_true h0
            simp (config := { dsimp := false, maxSteps := 10000000 }) (disch := omega) only [go_sem, reduceIte, Nat.reduceEqDiff, reduceCtorEq, Nat.reduceAdd, Nat.reduceMul, Int.reduceToNat, Int.reduceLE, Int.reduceLT, Int.reduceEq, Int.reduceNe, Nat.reduceLeDiff, Int.reducePow, Nat.reducePow, Nat.reduceLT, Nat.reduceSub, Nat.reduceMod, Nat.reduceDiv, slot_neg, slot_pos, T.ag_3, T.ag_9, T.es_9, T.fo_23_0, T.fo_23_1, T.fo_23_2, T.fo_23_3, T.gf_17, T.gf_18, T.ib_3, T.ib_9, T.ii_3, T.ii_5, T.ii_9, T.ip_3, T.ip_9, T.s8_3, T.s8_5, T.s8_9, T.sl_3, T.sl_5, T.sl_9, T.st_3, T.st_5, T.st_9, T.un_3, T.un_5, T.un_9, q3, q7, c1, c2, mk_str]
            exact ⟨congrArg Value.bool (decide_eq_false (fun e => absurd h0 (hne.2 e.1))).symm, hU⟩
          · have c2 := eq_false h0
            have h8 := hne.1 h0
            simp (config := { dsimp := false, maxSteps := 10000000 }) (disch := omega) only [go_sem, reduceIte, Nat.reduceEqDiff, reduceCtorEq, Nat.reduceAdd, Nat.reduceMul, Int.reduceToNat, Int.reduceLE, Int.reduceLT, Int.reduceEq, Int.reduceNe, Nat.reduceLeDiff, Int.reducePow, Nat.reducePow, Nat.reduceLT, Nat.reduceSub, Nat.reduceMod, Nat.reduceDiv, slot_neg, slot_pos, T.ag_3, T.ag_9, T.es_9, T.fo_23_0, T.fo_23_1, T.fo_23_2, T.fo_23_3, T.gf_17, T.gf_18, T.ib_3, T.ib_9, T.ii_3, T.ii_5, T.ii_9, T.ip_3, T.ip_9, T.s8_3, T.s8_5, T.s8_9, T.sl_3, T.sl_5, T.sl_9, T.st_3, T.st_5, T.st_9, T.un_3, T.un_5, T.un_9, q3, q7, c1, c2, mk_str]
            exact ⟨congrArg Value.bool (decide_eq_decide.2 (by omega)), hU⟩
    rw [if_neg k16]
    have f16 := eq_false k16
    simp (config := { dsimp := false, maxSteps := 10000000 }) (disch := omega) only [go_sem, reduceIte, Nat.reduceEqDiff, reduceCtorEq, Nat.reduceAdd, Nat.reduceMul, Int.reduceToNat, Int.reduceLE, Int.reduceLT, Int.reduceEq, Int.reduceNe, Nat.reduceLeDiff, Int.reducePow, Nat.reducePow, Nat.reduceLT, Nat.reduceSub, Nat.reduceMod, Nat.reduceDiv, slot_neg, slot_pos, T.ag_3, T.ag_9, T.es_9, T.fo_23_0, T.fo_23_1, T.fo_23_2, T.fo_23_3, T.gf_17, T.gf_18, T.ib_3, T.ib_9, T.ii_3, T.ii_5, T.ii_9, T.ip_3, T.ip_9, T.s8_3, T.s8_5, T.s8_9, T.sl_3, T.sl_5, T.sl_9, T.st_3, T.st_5, T.st_9, T.un_3, T.un_5, T.un_9, hg, b1, b2, b3, b4, b5, f1, f28, f2, f5, f15, f6, f16]
    exact hU
  · have e : (decide (1 ≤ ty ∧ ty ≤ 65535) && (decide (0 ≤ tl ∧ tl ≤ 2147483647) && (decide (da.length ≤ 1000) && rightD ty da))) = false := by
      rw [Bool.eq_false_iff]; intro hh; simp at hh; exact hall ⟨hh.1, hh.2.1, hh.2.2.1⟩
    rw [Bool.true_and, e]
    by_cases b1 : ty < 1
    · simp (config := { dsimp := false, maxSteps := 10000000 }) (disch := omega) only [go_sem, reduceIte, Nat.reduceEqDiff, reduceCtorEq, Nat.reduceAdd, Nat.reduceMul, Int.reduceToNat, Int.reduceLE, Int.reduceLT, Int.reduceEq, Int.reduceNe, Nat.reduceLeDiff, Int.reducePow, Nat.reducePow, Nat.reduceLT, Nat.reduceSub, Nat.reduceMod, Nat.reduceDiv, slot_neg, slot_pos, T.ag_3, T.ag_9, T.es_9, T.fo_23_0, T.fo_23_1, T.fo_23_2, T.fo_23_3, T.gf_17, T.gf_18, T.ib_3, T.ib_9, T.ii_3, T.ii_5, T.ii_9, T.ip_3, T.ip_9, T.s8_3, T.s8_5, T.s8_9, T.sl_3, T.sl_5, T.sl_9, T.st_3, T.st_5, T.st_9, T.un_3, T.un_5, T.un_9, hg, b1]
      exact hU
    by_cases b2 : (65535 : Int) < ty
    · simp (config := { dsimp := false, maxSteps := 10000000 }) (disch := omega) only [go_sem, reduceIte, Nat.reduceEqDiff, reduceCtorEq, Nat.reduceAdd, Nat.reduceMul, Int.reduceToNat, Int.reduceLE, Int.reduceLT, Int.reduceEq, Int.reduceNe, Nat.reduceLeDiff, Int.reducePow, Nat.reducePow, Nat.reduceLT, Nat.reduceSub, Nat.reduceMod, Nat.reduceDiv, slot_neg, slot_pos, T.ag_3, T.ag_9, T.es_9, T.fo_23_0, T.fo_23_1, T.fo_23_2, T.fo_23_3, T.gf_17, T.gf_18, T.ib_3, T.ib_9, T.ii_3, T.ii_5, T.ii_9, T.ip_3, T.ip_9, T.s8_3, T.s8_5, T.s8_9, T.sl_3, T.sl_5, T.sl_9, T.st_3, T.st_5, T.st_9, T.un_3, T.un_5, T.un_9, hg, b1, b2]
      exact hU
    by_cases b3 : tl < 0
    · simp (config := { dsimp := false, maxSteps := 10000000 }) (disch := omega) only [go_sem, reduceIte, Nat.reduceEqDiff, reduceCtorEq, Nat.reduceAdd, Nat.reduceMul, Int.reduceToNat, Int.reduceLE, Int.reduceLT, Int.reduceEq, Int.reduceNe, Nat.reduceLeDiff, Int.reducePow, Nat.reducePow, Nat.reduceLT, Nat.reduceSub, Nat.reduceMod, Nat.reduceDiv, slot_neg, slot_pos, T.ag_3, T.ag_9, T.es_9, T.fo_23_0, T.fo_23_1, T.fo_23_2, T.fo_23_3, T.gf_17, T.gf_18, T.ib_3, T.ib_9, T.ii_3, T.ii_5, T.ii_9, T.ip_3, T.ip_9, T.s8_3, T.s8_5, T.s8_9, T.sl_3, T.sl_5, T.sl_9, T.st_3, T.st_5, T.st_9, T.un_3, T.un_5, T.un_9, hg, b1, b2, b3]
      exact hU
    by_cases b4 : (2147483647 : Int) < tl
    · simp (config := { dsimp := false, maxSteps := 10000000 }) (disch := omega) only [go_sem, reduceIte, Nat.reduceEqDiff, reduceCtorEq, Nat.reduceAdd, Nat.reduceMul, Int.reduceToNat, Int.reduceLE, Int.reduceLT, Int.reduceEq, Int.reduceNe, Nat.reduceLeDiff, Int.reducePow, Nat.reducePow, Nat.reduceLT, Nat.reduceSub, Nat.reduceMod, Nat.reduceDiv, slot_neg, slot_pos, T.ag_3, T.ag_9, T.es_9, T.fo_23_0, T.fo_23_1, T.fo_23_2, T.fo_23_3, T.gf_17, T.gf_18, T.ib_3, T.ib_9, T.ii_3, T.ii_5, T.ii_9, T.ip_3, T.ip_9, T.s8_3, T.s8_5, T.s8_9, T.sl_3, T.sl_5, T.sl_9, T.st_3, T.st_5, T.st_9, T.un_3, T.un_5, T.un_9, hg, b1, b2, b3, b4]
      exact hU
    have b5 : ((1000 : Int) < (da.length : Int)) = True := eq_true (by omega)
    simp (config := { dsimp := false, maxSteps := 10000000 }) (disch := omega) only [go_sem, reduceIte, Nat.reduceEqDiff, reduceCtorEq, Nat.reduceAdd, Nat.reduceMul, Int.reduceToNat, Int.reduceLE, Int.reduceLT, Int.reduceEq, Int.reduceNe, Nat.reduceLeDiff, Int.reducePow, Nat.reducePow, Nat.reduceLT, Nat.reduceSub, Nat.reduceMod, Nat.reduceDiv, slot_neg, slot_pos, T.ag_3, T.ag_9, T.es_9, T.fo_23_0, T.fo_23_1, T.fo_23_2, T.fo_23_3, T.gf_17, T.gf_18, T.ib_3, T.ib_9, T.ii_3, T.ii_5, T.ii_9, T.ip_3, T.ip_9, T.s8_3, T.s8_5, T.s8_9, T.sl_3, T.sl_5, T.sl_9, T.st_3, T.st_5, T.st_9, T.un_3, T.un_5, T.un_9, hg, b1, b2, b3, b4, b5]
    exact hU
end Ph
