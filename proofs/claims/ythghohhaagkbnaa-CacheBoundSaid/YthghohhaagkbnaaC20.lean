import Derived.Test.YthghohhaagkbnaaC19
set_option maxRecDepth 100000
set_option maxHeartbeats 4000000
set_option linter.unusedSimpArgs false
set_option linter.unusedVariables false
namespace Ph
open Go Go.Proofs
attribute [local irreducible] Value.cells
attribute [local go_sem ↓] y_move y_assign y_pick y_nil y_bin y_un y_fa y_field y_ext y_ia y_ix y_slice y_build y_mf y_rg y_nx y_en y_mm y_lk y_mu y_del y_load y_len y_min y_max y_conv y_bs y_mk y_alloc y_box y_store y_clear y_app y_callf y_callt s_move s_assign s_pick s_nil s_bin s_un s_fa s_field s_ext s_ia s_ix s_slice s_conv s_build s_bs s_mf s_alloc s_box s_rg s_nx s_en s_mm s_lk s_mu s_del s_load s_store s_len s_clear s_min s_max s_app s_call q_call q_move q_assign q_pick q_nil q_bin q_un q_fa q_field q_ext q_ia q_ix q_slice q_conv q_build q_mf q_lk q_load q_len q_min q_max l_nil l_move l_assign l_pick l_nilc l_bin l_un l_fa l_field l_ext l_ia l_ix l_slice l_conv l_build l_mf l_lk l_load l_len l_min l_max l_call put_eq putN_eq o_nil o_plain o_gate v_nil v_plain v_gate vc_skip vc_region vc_seq vc_cond vc_block vc_loop vc_rf vc_exit vc_ret blk_normal blk_ret blk_exit on_normal on_ret on_exit vc_drawn draw_q s_mk l_bs l_mk l_rg l_nx l_en l_mm l_mu l_del l_alloc l_box l_store l_app l_clear pl_done pl_takeS pl_take pl_alt pl_stop one_plain one_gate
attribute [local go_sem] clear_nil clear_sl onAgg_a onTuple_t onFn_f onFn_y onFunc_f c_int c_nil c_sl c_str sl_sl sl_nil sl_str ix_str ix_agg n_nil n_sl n_str app_eq k_nil k_sl len_sl len_str len_mn len_m onMap_m onIter_i rg_n rg_m nx_p en_p lk_n lk_m up_m setM_n setM_s del_n del_m kt_s kt_i upd_some upd_none ev_tmp ev_const ev_func rd_some gdst_eq otmp_t otmp_c get_put get_alloc next_put next_alloc get_app next_app init_a resV1 resV2 onPtr_ptr onBool_b onInt_i onSlice_s onSome_s onCells_c lett_eq gate_tt gate_tf gate_ff gate_ft gate_dt gate_df also_eq bin un minmax io_none io_some bo_none bo_some partOf List.getElem?_cons_zero List.getElem?_cons_succ List.getElem?_toArray Option.map_some Option.map_none Option.bind_some ne_eq not_true_eq_false not_false_eq_true false_implies true_implies and_true true_and and_self Bool.false_eq_true Nat.zero_add Nat.add_zero List.size_toArray List.length_cons List.length_nil List.map_toArray List.map_cons List.map_nil Array.getD_eq_getD_getElem? Option.getD_some Bool.not_true Bool.not_false Bool.not_eq_true Option.isNone_some Option.isNone_none List.append_toArray List.append_nil List.nil_append List.cons_append decide_true decide_false in_nil in_cons Bool.and_false Bool.and_true Bool.or_false Bool.true_or Bool.false_or get_mask next_mask get_unmask next_unmask ac_move ac_assign ac_pick ac_nil ac_bin ac_un ac_fa ac_field ac_ext ac_ia ac_ix ac_slice ac_build ac_mf ac_call ac_len ac_lk ac_min ac_max accM_m accM_n accM_s accM_t ac_load ac_conv accP_p accS_s accS_n accS_i accS_t fixed_ro fixed_lock fixed_own get_ro next_ro lock_live' lock_cells List.mem_cons List.not_mem_nil or_false false_or or_true true_or and_false false_and IntKind.bits Int.natCast_zero Int.natCast_one size_str data_str list_str mk_str ext_str app_str bytes_str w_byte w_byteu Int.toNat_natCast Int.toNat_zero Int.toNat_one Nat.sub_zero ge_iff_le gt_iff_lt Nat.le_refl Int.le_refl List.drop_zero Int.ofNat_eq_natCast Int.natCast_nonneg Int.sub_zero oc_int oc_bool oc_str oc_ptr oc_sl oc_map oc_func List.set_cons_zero List.set_cons_succ Nat.mul_one List.all_cons List.all_nil Bool.and_self res_nil res_tmp res_cell tup_one tup_two tup_nil fill_nil repl_zero cells_agg List.append_eq List.toList_toArray Nat.zero_mul Nat.one_mul repl_one repl_two onSome_build fill_cons onSome_lit splice_eq cells_int cells_bool cells_str cells_ptr cells_sl cells_map cells_func loadK_n loadK_s load_k storeK_n storeK_s store_k all_arr List.take_zero List.take_succ_cons List.drop_succ_cons List.take_nil List.drop_nil lk_own lk_ro lk_lock lk_lk fixed_lk gate_nt gate_nf gate3_b gate3_u undef Bool.true_and Bool.false_and nx_l nx_r nx_lt put_put resV0
/-! CacheBound. -/
theorem CacheBound_ph (h : Heap) (x0 : Int) (l1 : (List Int)) (s1 : Value) (hs1 : SlR (Rd.int .i64) h s1 l1) (wf0 : (Lit.int .i64 x0).wf = true) (wf1 : (l1.length ≤ maxLen ∧ ∀ x ∈ l1, (Lit.int .i64 x).wf = true)) :
    @CallsH Try.prog 6 #[.int .i64 x0, s1] h ⟨fun u _ => u = .bool true⟩ := by
  obtain ⟨hr0, hlt0⟩ := slr_int hs1
  obtain ⟨A0, st0, e0⟩ := hr0.form
  clear hs1 wf0 wf1
  (refine calls_of_codeR (rs := [.cell 4 4]) Try.func6 rfl rfl (by simp) ?_)
  (refine CodeH.seq' (CodeH.of_vc [] hm (by kernel_rfl) ?_); simp (config := { dsimp := false, maxSteps := 10000000 }) (disch := omega) only [go_sem, reduceIte, Nat.reduceEqDiff, reduceCtorEq, Nat.reduceAdd, Nat.reduceMul, Int.reduceToNat, Int.reduceLE, Int.reduceLT, Int.reduceEq, Int.reduceNe, Nat.reduceLeDiff, Int.reducePow, Nat.reducePow, Nat.reduceLT, Nat.reduceSub, Nat.reduceMod, Nat.reduceDiv, slot_neg, slot_pos, T.ag_3, T.ag_4, T.es_22, T.gf_10, T.gf_11, T.gf_12, T.gf_26, T.gf_27, T.gf_9, T.ib_25, T.ib_28, T.ib_3, T.ii_22, T.ii_28, T.ii_3, T.ip_25, T.ip_28, T.ip_3, T.s8_22, T.s8_28, T.s8_3, T.sl_22, T.sl_28, T.sl_3, T.st_22, T.st_28, T.st_3, T.un_22, T.un_28, T.un_3, T.zo_3, T.zo_4, init_a])
  obtain ⟨M0, hM0, hM1⟩ := modm x0 10 (by omega)
  obtain ⟨M, hM⟩ : ∃ M, M = M0 + 1 := ⟨_, rfl⟩
  have wM : IntKind.i64.wrap (1 + (M0 : Int)) = (M : Int) := by rw [i64wrap] <;> omega
  refine CodeH.seq (fun r H => H.get h.next = .live (.cells [.bool false] .own) ∧ h.next + 1 ≤ H.next ∧ Upd h H [] ∧ r 0 = .int .i64 x0 ∧ r 1 = s1 ∧ r 4 = .pointer (some ⟨h.next, 0, none⟩)) (CodeH.of_vc [] hm (by kernel_rfl) ?_) fun r H1 ⟨g1, hn1, hU1, q0, q1, q4⟩ => ?_
  · simp (config := { dsimp := false, maxSteps := 10000000 }) (disch := omega) only [go_sem, reduceIte, Nat.reduceEqDiff, reduceCtorEq, Nat.reduceAdd, Nat.reduceMul, Int.reduceToNat, Int.reduceLE, Int.reduceLT, Int.reduceEq, Int.reduceNe, Nat.reduceLeDiff, Int.reducePow, Nat.reducePow, Nat.reduceLT, Nat.reduceSub, Nat.reduceMod, Nat.reduceDiv, slot_neg, slot_pos, T.ag_3, T.ag_4, T.es_22, T.gf_10, T.gf_11, T.gf_12, T.gf_26, T.gf_27, T.gf_9, T.ib_25, T.ib_28, T.ib_3, T.ii_22, T.ii_28, T.ii_3, T.ip_25, T.ip_28, T.ip_3, T.s8_22, T.s8_28, T.s8_3, T.sl_22, T.sl_28, T.sl_3, T.st_22, T.st_28, T.st_3, T.un_22, T.un_28, T.un_3, T.zo_3, T.zo_4, init_a]
    refine (keeps_ph _).mono fun u H ⟨hu, hU⟩ => ?_
    subst hu
    simp (config := { dsimp := false, maxSteps := 10000000 }) (disch := omega) only [go_sem, reduceIte, Nat.reduceEqDiff, reduceCtorEq, Nat.reduceAdd, Nat.reduceMul, Int.reduceToNat, Int.reduceLE, Int.reduceLT, Int.reduceEq, Int.reduceNe, Nat.reduceLeDiff, Int.reducePow, Nat.reducePow, Nat.reduceLT, Nat.reduceSub, Nat.reduceMod, Nat.reduceDiv, slot_neg, slot_pos, T.ag_3, T.ag_4, T.es_22, T.gf_10, T.gf_11, T.gf_12, T.gf_26, T.gf_27, T.gf_9, T.ib_25, T.ib_28, T.ib_3, T.ii_22, T.ii_28, T.ii_3, T.ip_25, T.ip_28, T.ip_3, T.s8_22, T.s8_28, T.s8_3, T.sl_22, T.sl_28, T.sl_3, T.st_22, T.st_28, T.st_3, T.un_22, T.un_28, T.un_3, T.zo_3, T.zo_4, init_a]
    exact ⟨(hU.2 _ (by show h.next < h.next + 1; omega) (by simp)).trans (by simp (config := { dsimp := false }) (disch := omega) only [get_alloc, get_put, get_app, next_alloc, next_put, next_app, get_mask, get_unmask, next_mask, next_unmask, List.mem_cons, List.not_mem_nil, or_false, true_or, or_true, false_or, and_true, true_and, and_false, false_and, not_true_eq_false, not_false_eq_true, ne_eq, reduceIte, slot_neg, slot_pos]), hU.1, (Upd.alloc h (.cells [.bool false] .own) []).trans hU (by simp)⟩
  (refine CodeH.seq' (CodeH.of_vc [] hm (by kernel_rfl) ?_); simp (config := { dsimp := false, maxSteps := 10000000 }) (disch := omega) only [go_sem, reduceIte, Nat.reduceEqDiff, reduceCtorEq, Nat.reduceAdd, Nat.reduceMul, Int.reduceToNat, Int.reduceLE, Int.reduceLT, Int.reduceEq, Int.reduceNe, Nat.reduceLeDiff, Int.reducePow, Nat.reducePow, Nat.reduceLT, Nat.reduceSub, Nat.reduceMod, Nat.reduceDiv, slot_neg, slot_pos, T.ag_3, T.ag_4, T.es_22, T.gf_10, T.gf_11, T.gf_12, T.gf_26, T.gf_27, T.gf_9, T.ib_25, T.ib_28, T.ib_3, T.ii_22, T.ii_28, T.ii_3, T.ip_25, T.ip_28, T.ip_3, T.s8_22, T.s8_28, T.s8_3, T.sl_22, T.sl_28, T.sl_3, T.st_22, T.st_28, T.st_3, T.un_22, T.un_28, T.un_3, T.zo_3, T.zo_4, init_a, q0, hM1, wM])
  refine CodeH.seq (fun r H => ∃ p id, h.next + 1 ≤ p ∧ h.next + 1 ≤ id ∧ CaR isIntV H p id ⟨[], M, 0, 0⟩ ∧ Upd H1 H [] ∧ r 0 = .int .i64 M ∧ r 1 = s1 ∧ r 4 = .pointer (some ⟨h.next, 0, none⟩) ∧ r 5 = .pointer (some ⟨p, 0, none⟩) ∧ r 6 = .int .i64 0) (CodeH.of_vc [] hm (by kernel_rfl) ?_) fun r H2 ⟨p, id, hp, hid, hC2, hU2, q0, q1, q4, q5, q6⟩ => ?_
  · simp (config := { dsimp := false, maxSteps := 10000000 }) (disch := omega) only [go_sem, reduceIte, Nat.reduceEqDiff, reduceCtorEq, Nat.reduceAdd, Nat.reduceMul, Int.reduceToNat, Int.reduceLE, Int.reduceLT, Int.reduceEq, Int.reduceNe, Nat.reduceLeDiff, Int.reducePow, Nat.reducePow, Nat.reduceLT, Nat.reduceSub, Nat.reduceMod, Nat.reduceDiv, slot_neg, slot_pos, T.ag_3, T.ag_4, T.es_22, T.gf_10, T.gf_11, T.gf_12, T.gf_26, T.gf_27, T.gf_9, T.ib_25, T.ib_28, T.ib_3, T.ii_22, T.ii_28, T.ii_3, T.ip_25, T.ip_28, T.ip_3, T.s8_22, T.s8_28, T.s8_3, T.sl_22, T.sl_28, T.sl_3, T.st_22, T.st_28, T.st_3, T.un_22, T.un_28, T.un_3, T.zo_3, T.zo_4, q0, q1, q4]
    refine (NewI_ph H1 M (by omega) (by omega)).mono fun u H ⟨p, id, h1, h2, hu, h3, h4⟩ => ?_
    subst hu
    simp (config := { dsimp := false, maxSteps := 10000000 }) (disch := omega) only [go_sem, reduceIte, Nat.reduceEqDiff, reduceCtorEq, Nat.reduceAdd, Nat.reduceMul, Int.reduceToNat, Int.reduceLE, Int.reduceLT, Int.reduceEq, Int.reduceNe, Nat.reduceLeDiff, Int.reducePow, Nat.reducePow, Nat.reduceLT, Nat.reduceSub, Nat.reduceMod, Nat.reduceDiv, slot_neg, slot_pos, T.ag_3, T.ag_4, T.es_22, T.gf_10, T.gf_11, T.gf_12, T.gf_26, T.gf_27, T.gf_9, T.ib_25, T.ib_28, T.ib_3, T.ii_22, T.ii_28, T.ii_3, T.ip_25, T.ip_28, T.ip_3, T.s8_22, T.s8_28, T.s8_3, T.sl_22, T.sl_28, T.sl_3, T.st_22, T.st_28, T.st_3, T.un_22, T.un_28, T.un_3, T.zo_3, T.zo_4, q0, q1, q4]
    exact ⟨p, id, by omega, by omega, h3, h4, rfl⟩
  (refine CodeH.seq' (CodeH.of_vc [] hm (by kernel_rfl) ?_); simp (config := { dsimp := false, maxSteps := 10000000 }) (disch := omega) only [go_sem, reduceIte, Nat.reduceEqDiff, reduceCtorEq, Nat.reduceAdd, Nat.reduceMul, Int.reduceToNat, Int.reduceLE, Int.reduceLT, Int.reduceEq, Int.reduceNe, Nat.reduceLeDiff, Int.reducePow, Nat.reducePow, Nat.reduceLT, Nat.reduceSub, Nat.reduceMod, Nat.reduceDiv, slot_neg, slot_pos, T.ag_3, T.ag_4, T.es_22, T.gf_10, T.gf_11, T.gf_12, T.gf_26, T.gf_27, T.gf_9, T.ib_25, T.ib_28, T.ib_3, T.ii_22, T.ii_28, T.ii_3, T.ip_25, T.ip_28, T.ip_3, T.s8_22, T.s8_28, T.s8_3, T.sl_22, T.sl_28, T.sl_3, T.st_22, T.st_28, T.st_3, T.un_22, T.un_28, T.un_3, T.zo_3, T.zo_4, init_a, q6])
  obtain ⟨n, hn⟩ : ∃ n, min l1.length 40 = n := ⟨_, rfl⟩
  have emin : (if (40 : Int) < (l1.length : Int) then (40 : Int) else (l1.length : Int)) = (n : Int) := by split <;> omega
  have hn2 := hU2.1
  have hpl := hC2.lt
  have hil := hC2.map.elim fun cl hM => hM.lt
  refine CodeH.seq (fun r H => H.get H2.next = .live (.cells [.int .i64 n] .own) ∧ H.next = H2.next + 1 ∧ Upd H2 H [] ∧ r 0 = .int .i64 M ∧ r 1 = s1 ∧ r 4 = .pointer (some ⟨h.next, 0, none⟩) ∧ r 5 = .pointer (some ⟨p, 0, none⟩) ∧ r 7 = .pointer (some ⟨H2.next, 0, none⟩)) (CodeH.of_vc [] hm (by kernel_rfl) ?_) fun r H3 ⟨g37, hn3, hU3, q0, q1, q4, q5, q7⟩ => ?_
  · rw [e0] at q1
    simp (config := { dsimp := false, maxSteps := 10000000 }) (disch := omega) only [go_sem, reduceIte, Nat.reduceEqDiff, reduceCtorEq, Nat.reduceAdd, Nat.reduceMul, Int.reduceToNat, Int.reduceLE, Int.reduceLT, Int.reduceEq, Int.reduceNe, Nat.reduceLeDiff, Int.reducePow, Nat.reducePow, Nat.reduceLT, Nat.reduceSub, Nat.reduceMod, Nat.reduceDiv, slot_neg, slot_pos, T.ag_3, T.ag_4, T.es_22, T.gf_10, T.gf_11, T.gf_12, T.gf_26, T.gf_27, T.gf_9, T.ib_25, T.ib_28, T.ib_3, T.ii_22, T.ii_28, T.ii_3, T.ip_25, T.ip_28, T.ip_3, T.s8_22, T.s8_28, T.s8_3, T.sl_22, T.sl_28, T.sl_3, T.st_22, T.st_28, T.st_3, T.un_22, T.un_28, T.un_3, T.zo_3, T.zo_4, q0, q1, q4, q5, emin]
    exact ⟨(Upd.alloc _ _ _).put (.inr (Nat.le_refl _)), e0.symm⟩
  have hC3 := hC2.upd hU3 (by simp) (by simp)
  have g34 := (hU3.2 h.next (by omega) (by simp)).trans ((hU2.2 h.next (by omega) (by simp)).trans g1)
  have hU03 : Upd h H3 [] := (hU1.trans hU2 (by simp)).trans hU3 (by simp)
  have hr3 : RowIn iE H3 s1 l1 := hr0.upd fun A n st e => hU03.2 _ (hlt0 A n st e) (by simp)
  have hn0 := hU03.1
  refine CodeH.seq (fun r H => (∃ c, BI M n c ∧ CaR isIntV H p id c ∧ Upd H3 H [p, id]) ∧ r 4 = .pointer (some ⟨h.next, 0, none⟩) ∧ r 5 = .pointer (some ⟨p, 0, none⟩) ∧ r 7 = .pointer (some ⟨H2.next, 0, none⟩)) (CodeH.of_vc [] hm (by kernel_rfl) ?_) fun r H4 ⟨⟨c, hB, hC4, hU4⟩, q4, q5, q7⟩ => ?_
  · simp (config := { dsimp := false, maxSteps := 10000000 }) (disch := omega) only [go_sem, reduceIte, Nat.reduceEqDiff, reduceCtorEq, Nat.reduceAdd, Nat.reduceMul, Int.reduceToNat, Int.reduceLE, Int.reduceLT, Int.reduceEq, Int.reduceNe, Nat.reduceLeDiff, Int.reducePow, Nat.reducePow, Nat.reduceLT, Nat.reduceSub, Nat.reduceMod, Nat.reduceDiv, slot_neg, slot_pos, T.ag_3, T.ag_4, T.es_22, T.gf_10, T.gf_11, T.gf_12, T.gf_26, T.gf_27, T.gf_9, T.ib_25, T.ib_28, T.ib_3, T.ii_22, T.ii_28, T.ii_3, T.ip_25, T.ip_28, T.ip_3, T.s8_22, T.s8_28, T.s8_3, T.sl_22, T.sl_28, T.sl_3, T.st_22, T.st_28, T.st_3, T.un_22, T.un_28, T.un_3, T.zo_3, T.zo_4]
    refine loop_intro [] hm (fun r H => ∃ (i : Nat) (c : Ca), i ≤ n ∧ BI M i c ∧ CaR isIntV H p id c ∧ Upd H3 H [p, id] ∧ r 0 = .int .i64 M ∧ r 1 = s1 ∧ r 4 = .pointer (some ⟨h.next, 0, none⟩) ∧ r 5 = .pointer (some ⟨p, 0, none⟩) ∧ r 7 = .pointer (some ⟨H2.next, 0, none⟩) ∧ r 8 = .int .i64 i) (fun r _ => match r 8 with | .int _ i => n - i.toNat | _ => 0) ?_ ?_
    · exact ⟨0, _, by omega, BI.start M (by omega) (by omega), hC3, Upd.refl _ _, by simp [upd, q0], by simp [upd, q1], by simp [upd, q4], by simp [upd, q5], by simp [upd, q7], by simp [upd]⟩
    · rintro r H ⟨i, c, hi, hB, hC, hU, q0, q1, q4, q5, q7, q8⟩
      have g7 : H.get H2.next = .live (.cells [.int .i64 n] .own) := (hU.2 _ (by omega) (by simp; omega)).trans g37
      by_cases hlt : i < n
      · have hlt' : ((i : Int) < (n : Int)) = True := eq_true (by omega)
        have hlt2 : ((i : Int) < (l1.length : Int)) = True := eq_true (by omega)
        have hrH : RowIn iE H s1 l1 := hr3.upd fun A nn st e => hU.2 _ (by have := hlt0 A nn st e; omega) (by have := hlt0 A nn st e; simp; omega)
        obtain ⟨q, off, vs, o2, hv', hq, y1, hbd⟩ := row_at hrH (i := i) (by omega)
        obtain ⟨k0, hk0, hk1⟩ := modm l1[i] 1000 (by omega)
        have wk : IntKind.i64.wrap (1 + (k0 : Int)) = ((k0 + 1 : Nat) : Int) := by rw [i64wrap] <;> omega
        have w1 : IntKind.i64.wrap ((i : Int) + 1) = ((i + 1 : Nat) : Int) := by rw [i64wrap] <;> omega
        obtain ⟨k, hk⟩ : ∃ k : Int, ((k0 + 1 : Nat) : Int) = k := ⟨_, rfl⟩
        rw [hk] at wk
        rw [hv'] at q1
        simp (config := { dsimp := false, maxSteps := 10000000 }) (disch := omega) only [go_sem, reduceIte, Nat.reduceEqDiff, reduceCtorEq, Nat.reduceAdd, Nat.reduceMul, Int.reduceToNat, Int.reduceLE, Int.reduceLT, Int.reduceEq, Int.reduceNe, Nat.reduceLeDiff, Int.reducePow, Nat.reducePow, Nat.reduceLT, Nat.reduceSub, Nat.reduceMod, Nat.reduceDiv, slot_neg, slot_pos, T.ag_3, T.ag_4, T.es_22, T.gf_10, T.gf_11, T.gf_12, T.gf_26, T.gf_27, T.gf_9, T.ib_25, T.ib_28, T.ib_3, T.ii_22, T.ii_28, T.ii_3, T.ip_25, T.ip_28, T.ip_3, T.s8_22, T.s8_28, T.s8_3, T.sl_22, T.sl_28, T.sl_3, T.st_22, T.st_28, T.st_3, T.un_22, T.un_28, T.un_3, T.zo_3, T.zo_4, q0, q1, q5, q7, q8, g7, hlt', hlt2, hq, y1, hk1, wk]
        refine (PutI_ph H p id c (.int .i64 (i : Int)) (.int .i64 k) k 0 ⟨_, rfl⟩ ⟨_, rfl⟩ hC hB.ok (by omega) (by unfold farC; omega) (by omega) (by decide) (by have := hB.puts; omega) ⟨rfl, rfl⟩).mono fun u H5 ⟨hu, ⟨b, hC5⟩, hU5⟩ => ?_
        subst hu
        obtain ⟨hB5, hval, hthere⟩ := hB.put (by omega) k (by omega) b ⟨rfl, rfl⟩
        generalize putS c (.int .i64 (i : Int)) (.int .i64 k) k 0 b ⟨rfl, rfl⟩ = c5 at *
        simp (config := { dsimp := false, maxSteps := 10000000 }) (disch := omega) only [go_sem, reduceIte, Nat.reduceEqDiff, reduceCtorEq, Nat.reduceAdd, Nat.reduceMul, Int.reduceToNat, Int.reduceLE, Int.reduceLT, Int.reduceEq, Int.reduceNe, Nat.reduceLeDiff, Int.reducePow, Nat.reducePow, Nat.reduceLT, Nat.reduceSub, Nat.reduceMod, Nat.reduceDiv, slot_neg, slot_pos, T.ag_3, T.ag_4, T.es_22, T.gf_10, T.gf_11, T.gf_12, T.gf_26, T.gf_27, T.gf_9, T.ib_25, T.ib_28, T.ib_3, T.ii_22, T.ii_28, T.ii_3, T.ip_25, T.ip_28, T.ip_3, T.s8_22, T.s8_28, T.s8_3, T.sl_22, T.sl_28, T.sl_3, T.st_22, T.st_28, T.st_3, T.un_22, T.un_28, T.un_3, T.zo_3, T.zo_4, q0, q1, q5, q7, q8]
        refine (GetI_ph H5 p id c5 0 (.int .i64 (i : Int)) ⟨_, rfl⟩ hC5).mono fun u H6 ⟨hC6, hU6, hget⟩ => ?_
        rw [hB5.time] at hC6 hget
        have hu : u = .tuple #[.int .i64 k, .int .i64 k, .bool true] := by
          rcases hget with ⟨x, hx, hxk, hu⟩ | ⟨hno, _⟩
          · obtain ⟨v1, v2⟩ := hval x hx hxk
            have wg : IntKind.i64.wrap (k - 0) = k := by rw [i64wrap] <;> omega
            rw [hu, v1, v2, hB5.now, wg]
          · obtain ⟨x, hx, hxk⟩ := hthere
            exact absurd hxk (hno x hx)
        subst hu
        simp (config := { dsimp := false, maxSteps := 10000000 }) (disch := omega) only [go_sem, reduceIte, Nat.reduceEqDiff, reduceCtorEq, Nat.reduceAdd, Nat.reduceMul, Int.reduceToNat, Int.reduceLE, Int.reduceLT, Int.reduceEq, Int.reduceNe, Nat.reduceLeDiff, Int.reducePow, Nat.reducePow, Nat.reduceLT, Nat.reduceSub, Nat.reduceMod, Nat.reduceDiv, slot_neg, slot_pos, T.ag_3, T.ag_4, T.es_22, T.gf_10, T.gf_11, T.gf_12, T.gf_26, T.gf_27, T.gf_9, T.ib_25, T.ib_28, T.ib_3, T.ii_22, T.ii_28, T.ii_3, T.ip_25, T.ip_28, T.ip_3, T.s8_22, T.s8_28, T.s8_3, T.sl_22, T.sl_28, T.sl_3, T.st_22, T.st_28, T.st_3, T.un_22, T.un_28, T.un_3, T.zo_3, T.zo_4, q0, q1, q5, q7, q8]
        refine (CountI_ph H6 p id c5 0 hC6 (by have := hB5.len; omega)).mono fun u H7 ⟨hu, hC7, hU7⟩ => ?_
        rw [hB5.time] at hu hC7
        subst hu
        have hlen5 := hB5.len
        have ec : (if (M : Int) < ((i + 1 : Nat) : Int) then (M : Int) else ((i + 1 : Nat) : Int)) = (c5.l.length : Int) := by split <;> omega
        simp (config := { dsimp := false, maxSteps := 10000000 }) (disch := omega) only [go_sem, reduceIte, Nat.reduceEqDiff, reduceCtorEq, Nat.reduceAdd, Nat.reduceMul, Int.reduceToNat, Int.reduceLE, Int.reduceLT, Int.reduceEq, Int.reduceNe, Nat.reduceLeDiff, Int.reducePow, Nat.reducePow, Nat.reduceLT, Nat.reduceSub, Nat.reduceMod, Nat.reduceDiv, slot_neg, slot_pos, T.ag_3, T.ag_4, T.es_22, T.gf_10, T.gf_11, T.gf_12, T.gf_26, T.gf_27, T.gf_9, T.ib_25, T.ib_28, T.ib_3, T.ii_22, T.ii_28, T.ii_3, T.ip_25, T.ip_28, T.ip_3, T.s8_22, T.s8_28, T.s8_3, T.sl_22, T.sl_28, T.sl_3, T.st_22, T.st_28, T.st_3, T.un_22, T.un_28, T.un_3, T.zo_3, T.zo_4, q0, q1, q5, q7, q8, w1, ec]
        exact ⟨⟨i + 1, c5, hlt, hB5, hC7, ((hU.trans hU5 fun d hd => .inl hd).trans hU6 fun d hd => .inl hd).trans hU7 fun d hd => .inl hd, hv'.symm, q4, rfl⟩, by omega⟩
      · have hlt' : ((i : Int) < (n : Int)) = False := eq_false (by omega)
        obtain rfl : i = n := by omega
        simp (config := { dsimp := false, maxSteps := 10000000 }) (disch := omega) only [go_sem, reduceIte, Nat.reduceEqDiff, reduceCtorEq, Nat.reduceAdd, Nat.reduceMul, Int.reduceToNat, Int.reduceLE, Int.reduceLT, Int.reduceEq, Int.reduceNe, Nat.reduceLeDiff, Int.reducePow, Nat.reducePow, Nat.reduceLT, Nat.reduceSub, Nat.reduceMod, Nat.reduceDiv, slot_neg, slot_pos, T.ag_3, T.ag_4, T.es_22, T.gf_10, T.gf_11, T.gf_12, T.gf_26, T.gf_27, T.gf_9, T.ib_25, T.ib_28, T.ib_3, T.ii_22, T.ii_28, T.ii_3, T.ip_25, T.ip_28, T.ip_3, T.s8_22, T.s8_28, T.s8_3, T.sl_22, T.sl_28, T.sl_3, T.st_22, T.st_28, T.st_3, T.un_22, T.un_28, T.un_3, T.zo_3, T.zo_4, q8, q7, g7, hlt']
        exact ⟨⟨c, hB, hC, hU⟩, q4, q5⟩
  have n4 := hU4.1
  have g44 := (hU4.2 h.next (by omega) (by simp; omega)).trans g34
  have g47 := (hU4.2 H2.next (by omega) (by simp; omega)).trans g37
  refine CodeH.seq (fun r H => H.get H4.next = .live (.cells [.int .i64 0] .own) ∧ H.next = H4.next + 1 ∧ Upd H4 H [] ∧ r 4 = .pointer (some ⟨h.next, 0, none⟩) ∧ r 5 = .pointer (some ⟨p, 0, none⟩) ∧ r 7 = .pointer (some ⟨H2.next, 0, none⟩) ∧ r 13 = .pointer (some ⟨H4.next, 0, none⟩)) (CodeH.of_vc [] hm (by kernel_rfl) ?_) fun r H5 ⟨g513, hn5, hU5, q4, q5, q7, q13⟩ => ?_
  · simp (config := { dsimp := false, maxSteps := 10000000 }) (disch := omega) only [go_sem, reduceIte, Nat.reduceEqDiff, reduceCtorEq, Nat.reduceAdd, Nat.reduceMul, Int.reduceToNat, Int.reduceLE, Int.reduceLT, Int.reduceEq, Int.reduceNe, Nat.reduceLeDiff, Int.reducePow, Nat.reducePow, Nat.reduceLT, Nat.reduceSub, Nat.reduceMod, Nat.reduceDiv, slot_neg, slot_pos, T.ag_3, T.ag_4, T.es_22, T.gf_10, T.gf_11, T.gf_12, T.gf_26, T.gf_27, T.gf_9, T.ib_25, T.ib_28, T.ib_3, T.ii_22, T.ii_28, T.ii_3, T.ip_25, T.ip_28, T.ip_3, T.s8_22, T.s8_28, T.s8_3, T.sl_22, T.sl_28, T.sl_3, T.st_22, T.st_28, T.st_3, T.un_22, T.un_28, T.un_3, T.zo_3, T.zo_4, q4, q5, q7]
    exact (Upd.alloc _ _ _).put (.inr (Nat.le_refl _))
  have g54 := (hU5.2 h.next (by omega) (by simp)).trans g44
  have g57 := (hU5.2 H2.next (by omega) (by simp)).trans g47
  have hC5 := hC4.upd hU5 (by simp) (by simp)
  have hp4 := hC4.lt
  have hi4 := hC4.map.elim fun cl hM => hM.lt
  refine CodeH.seq (fun r H => H.get h.next = .live (.cells [.bool false] .own) ∧ r 4 = .pointer (some ⟨h.next, 0, none⟩)) ?_ fun r H8 ⟨g84, q4⟩ => ?_
  · refine CodeH.seq' (CodeH.of_vc [] hm (by kernel_rfl) ?_)
    simp (config := { dsimp := false, maxSteps := 10000000 }) (disch := omega) only [go_sem, reduceIte, Nat.reduceEqDiff, reduceCtorEq, Nat.reduceAdd, Nat.reduceMul, Int.reduceToNat, Int.reduceLE, Int.reduceLT, Int.reduceEq, Int.reduceNe, Nat.reduceLeDiff, Int.reducePow, Nat.reducePow, Nat.reduceLT, Nat.reduceSub, Nat.reduceMod, Nat.reduceDiv, slot_neg, slot_pos, T.ag_3, T.ag_4, T.es_22, T.gf_10, T.gf_11, T.gf_12, T.gf_26, T.gf_27, T.gf_9, T.ib_25, T.ib_28, T.ib_3, T.ii_22, T.ii_28, T.ii_3, T.ip_25, T.ip_28, T.ip_3, T.s8_22, T.s8_28, T.s8_3, T.sl_22, T.sl_28, T.sl_3, T.st_22, T.st_28, T.st_3, T.un_22, T.un_28, T.un_3, T.zo_3, T.zo_4, q5]
    refine (AllI_ph H5 p id c 0 hC5 hB.ok).mono fun u H6 ⟨b, v, D, s, k1, k2, k3, k4, k5, k6, k7, k8, k9, k10⟩ => ?_
    subst k1
    simp (config := { dsimp := false, maxSteps := 10000000 }) (disch := omega) only [go_sem, reduceIte, Nat.reduceEqDiff, reduceCtorEq, Nat.reduceAdd, Nat.reduceMul, Int.reduceToNat, Int.reduceLE, Int.reduceLT, Int.reduceEq, Int.reduceNe, Nat.reduceLeDiff, Int.reducePow, Nat.reducePow, Nat.reduceLT, Nat.reduceSub, Nat.reduceMod, Nat.reduceDiv, slot_neg, slot_pos, T.ag_3, T.ag_4, T.es_22, T.gf_10, T.gf_11, T.gf_12, T.gf_26, T.gf_27, T.gf_9, T.ib_25, T.ib_28, T.ib_3, T.ii_22, T.ii_28, T.ii_3, T.ip_25, T.ip_28, T.ip_3, T.s8_22, T.s8_28, T.s8_3, T.sl_22, T.sl_28, T.sl_3, T.st_22, T.st_28, T.st_3, T.un_22, T.un_28, T.un_3, T.zo_3, T.zo_4]
    rw [hB.time] at k7 k9
    have n6 := k10.1
    have hDl := k5.lt
    have hsl : s.length ≤ 10 := by rw [k7.length_eq, hB.len]; omega
    have g64 := (k10.2 h.next (by omega) (by simp; omega)).trans g54
    have g67 := (k10.2 H2.next (by omega) (by simp; omega)).trans g57
    have g613 := (k10.2 H4.next (by omega) (by simp; omega)).trans g513
    refine CodeH.of_vc [] hm (by kernel_rfl) ?_
    simp (config := { dsimp := false, maxSteps := 10000000 }) (disch := omega) only [go_sem, reduceIte, Nat.reduceEqDiff, reduceCtorEq, Nat.reduceAdd, Nat.reduceMul, Int.reduceToNat, Int.reduceLE, Int.reduceLT, Int.reduceEq, Int.reduceNe, Nat.reduceLeDiff, Int.reducePow, Nat.reducePow, Nat.reduceLT, Nat.reduceSub, Nat.reduceMod, Nat.reduceDiv, slot_neg, slot_pos, T.ag_3, T.ag_4, T.es_22, T.gf_10, T.gf_11, T.gf_12, T.gf_26, T.gf_27, T.gf_9, T.ib_25, T.ib_28, T.ib_3, T.ii_22, T.ii_28, T.ii_3, T.ip_25, T.ip_28, T.ip_3, T.s8_22, T.s8_28, T.s8_3, T.sl_22, T.sl_28, T.sl_3, T.st_22, T.st_28, T.st_3, T.un_22, T.un_28, T.un_3, T.zo_3, T.zo_4]
    obtain ⟨F, hF⟩ : ∃ F, F = Value.func (.func 59) #[] #[.pointer (some ⟨b, 0, none⟩)] := ⟨_, rfl⟩
    refine RF.gen (fun r => r 4 = .pointer (some ⟨h.next, 0, none⟩) ∧ r 7 = .pointer (some ⟨H2.next, 0, none⟩) ∧ r 13 = .pointer (some ⟨H4.next, 0, none⟩) ∧ r 81 = F) ⟨by simp [upd, q4], by simp [upd, q7], by simp [upd, q13], by simp [upd, hF]⟩ fun r ⟨q4, q7, q13, q81⟩ => ?_
    rw [hF] at q81
    refine range_over q81 (by kernel_rfl) (AllSeqI b v s (by omega)) (fun args ha => ?_) (fun i H => H6.next < H.next ∧ (∃ last : Int, H.get H4.next = .live (.cells [.int .i64 last] .own) ∧ ∀ (y : Th), s[i]? = some y → last ≤ y.goes) ∧ Upd H6 H [H4.next]) ?_ ?_ ?_ ?_ ?_ ?_
    · obtain ⟨i, _, rfl⟩ := List.mem_map.1 ha; rfl
    · intro H hu1 hn2
      refine ⟨by omega, ⟨0, (hu1.2 _ (by omega) (by simp)).trans g613, fun y hy => ?_⟩, hu1.mono (by simp)⟩
      obtain ⟨j, _, _, _, hj⟩ := hB.shape y (k7.subset (List.mem_of_getElem? hy))
      omega
    · rintro i H ⟨a0, _, hu⟩
      have hBr := k5.upd hu fun d hd => by have := k6 d hd; simp; omega
      refine ⟨by omega, _, (hu.2 b (by omega) (by simp; omega)).trans k4, hBr.row, fun A n st e => ?_⟩
      rcases hBr with ⟨e1, _⟩ | ⟨q, off, vs, _, hqn, e1, _⟩
      · rw [e1] at e; cases e
      · rw [e1] at e; cases e; exact hqn
    · rintro i H H' ⟨a0, ⟨last, a1, a2⟩, a3⟩ hu
      exact ⟨Nat.lt_of_lt_of_le a0 hu.1, ⟨last, (hu.2 _ (by omega) (by simp)).trans a1, a2⟩, a3.trans hu (by simp)⟩
    · rintro i H x ⟨a0, ⟨last, a1, a2⟩, a3⟩
      exact ⟨a0, ⟨last, by rw [get_put, if_neg (by omega)]; exact a1, a2⟩, a3.put (.inr (Nat.le_refl _))⟩
    · rintro H x ⟨a0, ⟨last, a1, a2⟩, a3⟩
      simp (config := { dsimp := false, maxSteps := 10000000 }) (disch := omega) only [go_sem, reduceIte, Nat.reduceEqDiff, reduceCtorEq, Nat.reduceAdd, Nat.reduceMul, Int.reduceToNat, Int.reduceLE, Int.reduceLT, Int.reduceEq, Int.reduceNe, Nat.reduceLeDiff, Int.reducePow, Nat.reducePow, Nat.reduceLT, Nat.reduceSub, Nat.reduceMod, Nat.reduceDiv, slot_neg, slot_pos, T.ag_3, T.ag_4, T.es_22, T.gf_10, T.gf_11, T.gf_12, T.gf_26, T.gf_27, T.gf_9, T.ib_25, T.ib_28, T.ib_3, T.ii_22, T.ii_28, T.ii_3, T.ip_25, T.ip_28, T.ip_3, T.s8_22, T.s8_28, T.s8_3, T.sl_22, T.sl_28, T.sl_3, T.st_22, T.st_28, T.st_3, T.un_22, T.un_28, T.un_3, T.zo_3, T.zo_4]
      refine ⟨?_, q4⟩
      exact (a3.2 _ (by omega) (by simp; omega)).trans g64
    · rintro n' i args H B k1' k2' hx' ⟨a0, ⟨last, a1, a2⟩, a3⟩ hB' hlt2
      have hi : i < s.length := by
        have := (List.getElem?_eq_some_iff.1 hx').1; simpa using this
      have hxx : s[i]? = some s[i] := List.getElem?_eq_getElem hi
      rw [List.getElem?_map, hxx] at hx'
      have hsm : s[i] ∈ s := List.getElem_mem _
      obtain ⟨j, j1, j2, j3, j4⟩ := hB.shape s[i] (k7.subset hsm)
      have hnext : ∀ y, s[i + 1]? = some y → s[i].goes ≤ y.goes := fun y hy => by
        obtain ⟨h1, h2⟩ := List.getElem?_eq_some_iff.1 hy
        have := (List.pairwise_iff_getElem.1 k8) i (i + 1) hi h1 (Nat.lt_succ_self _)
        rw [h2] at this
        unfold leT at this; omega
      have hlast := a2 _ hxx
      generalize s[i] = y at hx' hxx hsm j2 j3 j4 hnext hlast
      cases hx'
      rw [show ∀ a c : Value, setP r (#[82, 83] : Array Nat).toList (#[a, c] : Array Value).toList = upd (upd r (some 82) a) (some 83) c from fun _ _ => rfl]
      refine CodeH.of_vc [] hm k1' ?_
      simp (config := { dsimp := false, maxSteps := 10000000 }) (disch := omega) only [go_sem, reduceIte, Nat.reduceEqDiff, reduceCtorEq, Nat.reduceAdd, Nat.reduceMul, Int.reduceToNat, Int.reduceLE, Int.reduceLT, Int.reduceEq, Int.reduceNe, Nat.reduceLeDiff, Int.reducePow, Nat.reducePow, Nat.reduceLT, Nat.reduceSub, Nat.reduceMod, Nat.reduceDiv, slot_neg, slot_pos, T.ag_3, T.ag_4, T.es_22, T.gf_10, T.gf_11, T.gf_12, T.gf_26, T.gf_27, T.gf_9, T.ib_25, T.ib_28, T.ib_3, T.ii_22, T.ii_28, T.ii_3, T.ip_25, T.ip_28, T.ip_3, T.s8_22, T.s8_28, T.s8_3, T.sl_22, T.sl_28, T.sl_3, T.st_22, T.st_28, T.st_3, T.un_22, T.un_28, T.un_3, T.zo_3, T.zo_4, hB']
      refine fun B2 => CodeH.of_vc [] hm k2' ?_
      obtain ⟨Hb, hHb⟩ : ∃ Hb, H.put H6.next B2 = Hb := ⟨_, rfl⟩
      rw [hHb]
      have eB : Hb.get H6.next = B2 := by rw [← hHb, get_put, if_pos rfl]
      have e7 : Upd H6 Hb [H4.next] := by rw [← hHb]; exact a3.put (.inr (Nat.le_refl _))
      have e9 : H6.next < Hb.next := by rw [← hHb, next_put]; exact a0
      have e13 : Hb.get H4.next = .live (.cells [.int .i64 last] .own) := by rw [← hHb, get_put, if_neg (by omega)]; exact a1
      have e17 : Hb.get H2.next = .live (.cells [.int .i64 n] .own) := (e7.2 _ (by omega) (by simp; omega)).trans g67
      clear hHb
      have c1 : (y.goes < last) = False := eq_false (by omega)
      have c2 : ((j : Int) < 0) = False := eq_false (by omega)
      have c3 : ((j : Int) ≥ (n : Int)) = False := eq_false (by omega)
      have c4 : ((n : Int) ≤ (j : Int)) = False := eq_false (by omega)
      simp (config := { dsimp := false, maxSteps := 10000000 }) (disch := omega) only [go_sem, reduceIte, Nat.reduceEqDiff, reduceCtorEq, Nat.reduceAdd, Nat.reduceMul, Int.reduceToNat, Int.reduceLE, Int.reduceLT, Int.reduceEq, Int.reduceNe, Nat.reduceLeDiff, Int.reducePow, Nat.reducePow, Nat.reduceLT, Nat.reduceSub, Nat.reduceMod, Nat.reduceDiv, slot_neg, slot_pos, T.ag_3, T.ag_4, T.es_22, T.gf_10, T.gf_11, T.gf_12, T.gf_26, T.gf_27, T.gf_9, T.ib_25, T.ib_28, T.ib_3, T.ii_22, T.ii_28, T.ii_3, T.ip_25, T.ip_28, T.ip_3, T.s8_22, T.s8_28, T.s8_3, T.sl_22, T.sl_28, T.sl_3, T.st_22, T.st_28, T.st_3, T.un_22, T.un_28, T.un_3, T.zo_3, T.zo_4, q7, q13, j2, j3, e13, e17, c1, c2, c3, c4]
      exact ⟨eB, e9, e9, ⟨_, rfl, hnext⟩, e7.put (.inl (by simp))⟩
  (refine CodeH.of_vc [] hm (by kernel_rfl) ?_; simp (config := { dsimp := false, maxSteps := 10000000 }) (disch := omega) only [go_sem, reduceIte, Nat.reduceEqDiff, reduceCtorEq, Nat.reduceAdd, Nat.reduceMul, Int.reduceToNat, Int.reduceLE, Int.reduceLT, Int.reduceEq, Int.reduceNe, Nat.reduceLeDiff, Int.reducePow, Nat.reducePow, Nat.reduceLT, Nat.reduceSub, Nat.reduceMod, Nat.reduceDiv, slot_neg, slot_pos, T.ag_3, T.ag_4, T.es_22, T.gf_10, T.gf_11, T.gf_12, T.gf_26, T.gf_27, T.gf_9, T.ib_25, T.ib_28, T.ib_3, T.ii_22, T.ii_28, T.ii_3, T.ip_25, T.ip_28, T.ip_3, T.s8_22, T.s8_28, T.s8_3, T.sl_22, T.sl_28, T.sl_3, T.st_22, T.st_28, T.st_3, T.un_22, T.un_28, T.un_3, T.zo_3, T.zo_4, init_a, q4, g84])
end Ph
