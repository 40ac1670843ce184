import Derived.Test.YthghohhaagkbnaaC17
set_option maxRecDepth 100000
set_option maxHeartbeats 4000000
set_option linter.unusedSimpArgs false
set_option linter.unusedVariables false
namespace Ph
open Go Go.Proofs
attribute [local irreducible] Value.cells
attribute [local go_sem ↓] y_move y_assign y_pick y_nil y_bin y_un y_fa y_field y_ext y_ia y_ix y_slice y_build y_mf y_rg y_nx y_en y_mm y_lk y_mu y_del y_load y_len y_min y_max y_conv y_bs y_mk y_alloc y_box y_store y_clear y_app y_callf y_callt s_move s_assign s_pick s_nil s_bin s_un s_fa s_field s_ext s_ia s_ix s_slice s_conv s_build s_bs s_mf s_alloc s_box s_rg s_nx s_en s_mm s_lk s_mu s_del s_load s_store s_len s_clear s_min s_max s_app s_call q_call q_move q_assign q_pick q_nil q_bin q_un q_fa q_field q_ext q_ia q_ix q_slice q_conv q_build q_mf q_lk q_load q_len q_min q_max l_nil l_move l_assign l_pick l_nilc l_bin l_un l_fa l_field l_ext l_ia l_ix l_slice l_conv l_build l_mf l_lk l_load l_len l_min l_max l_call put_eq putN_eq o_nil o_plain o_gate v_nil v_plain v_gate vc_skip vc_region vc_seq vc_cond vc_block vc_loop vc_rf vc_exit vc_ret blk_normal blk_ret blk_exit on_normal on_ret on_exit vc_drawn draw_q s_mk l_bs l_mk l_rg l_nx l_en l_mm l_mu l_del l_alloc l_box l_store l_app l_clear pl_done pl_takeS pl_take pl_alt pl_stop one_plain one_gate
attribute [local go_sem] clear_nil clear_sl onAgg_a onTuple_t onFn_f onFn_y onFunc_f c_int c_nil c_sl c_str sl_sl sl_nil sl_str ix_str ix_agg n_nil n_sl n_str app_eq k_nil k_sl len_sl len_str len_mn len_m onMap_m onIter_i rg_n rg_m nx_p en_p lk_n lk_m up_m setM_n setM_s del_n del_m kt_s kt_i upd_some upd_none ev_tmp ev_const ev_func rd_some gdst_eq otmp_t otmp_c get_put get_alloc next_put next_alloc get_app next_app init_a resV1 resV2 onPtr_ptr onBool_b onInt_i onSlice_s onSome_s onCells_c lett_eq gate_tt gate_tf gate_ff gate_ft gate_dt gate_df also_eq bin un minmax io_none io_some bo_none bo_some partOf List.getElem?_cons_zero List.getElem?_cons_succ List.getElem?_toArray Option.map_some Option.map_none Option.bind_some ne_eq not_true_eq_false not_false_eq_true false_implies true_implies and_true true_and and_self Bool.false_eq_true Nat.zero_add Nat.add_zero List.size_toArray List.length_cons List.length_nil List.map_toArray List.map_cons List.map_nil Array.getD_eq_getD_getElem? Option.getD_some Bool.not_true Bool.not_false Bool.not_eq_true Option.isNone_some Option.isNone_none List.append_toArray List.append_nil List.nil_append List.cons_append decide_true decide_false in_nil in_cons Bool.and_false Bool.and_true Bool.or_false Bool.true_or Bool.false_or get_mask next_mask get_unmask next_unmask ac_move ac_assign ac_pick ac_nil ac_bin ac_un ac_fa ac_field ac_ext ac_ia ac_ix ac_slice ac_build ac_mf ac_call ac_len ac_lk ac_min ac_max accM_m accM_n accM_s accM_t ac_load ac_conv accP_p accS_s accS_n accS_i accS_t fixed_ro fixed_lock fixed_own get_ro next_ro lock_live' lock_cells List.mem_cons List.not_mem_nil or_false false_or or_true true_or and_false false_and IntKind.bits Int.natCast_zero Int.natCast_one size_str data_str list_str mk_str ext_str app_str bytes_str w_byte w_byteu Int.toNat_natCast Int.toNat_zero Int.toNat_one Nat.sub_zero ge_iff_le gt_iff_lt Nat.le_refl Int.le_refl List.drop_zero Int.ofNat_eq_natCast Int.natCast_nonneg Int.sub_zero oc_int oc_bool oc_str oc_ptr oc_sl oc_map oc_func List.set_cons_zero List.set_cons_succ Nat.mul_one List.all_cons List.all_nil Bool.and_self res_nil res_tmp res_cell tup_one tup_two tup_nil fill_nil repl_zero cells_agg List.append_eq List.toList_toArray Nat.zero_mul Nat.one_mul repl_one repl_two onSome_build fill_cons onSome_lit splice_eq cells_int cells_bool cells_str cells_ptr cells_sl cells_map cells_func loadK_n loadK_s load_k storeK_n storeK_s store_k all_arr List.take_zero List.take_succ_cons List.drop_succ_cons List.take_nil List.drop_nil lk_own lk_ro lk_lock lk_lk fixed_lk gate_nt gate_nf gate3_b gate3_u undef Bool.true_and Bool.false_and nx_l nx_r nx_lt put_put resV0
/-! CacheLeft. -/
theorem nowZ (c : Ca) (h : c.now = 0) : nowC c 0 = 0 := by unfold nowC farC; rw [h]; decide
theorem CacheLeft_ph (h : Heap) (l0 : (List (Int × (List UInt8) × Int × Int × Int))) (s0 : Value) (hs0 : SlR (Rd.pair (Rd.int .i64) (Rd.pair Rd.str (Rd.pair (Rd.int .i64) (Rd.pair (Rd.int .i64) (Rd.int .i64))))) h s0 l0) (x1 : Int) (wf0 : (l0.length ≤ maxLen ∧ ∀ x ∈ l0, ((Lit.int .i64 x.1).wf = true ∧ x.2.1.length ≤ maxLen ∧ (Lit.int .i64 x.2.2.1).wf = true ∧ (Lit.int .i64 x.2.2.2.1).wf = true ∧ (Lit.int .i64 x.2.2.2.2).wf = true))) (wf1 : (Lit.int .i64 x1).wf = true) :
    @CallsH Try.prog 8 #[s0, .int .i64 x1] h ⟨fun u _ => u = .bool true⟩ := by
  obtain ⟨hr0, hlt0⟩ := tu_row hs0
  clear hs0 wf0 wf1
  (refine calls_of_codeR (rs := [.cell 4 4]) Try.func8 rfl rfl (by simp) ?_)
  (refine CodeH.seq' (CodeH.of_vc [] hm (by kernel_rfl) ?_); simp (config := { dsimp := false, maxSteps := 10000000 }) (disch := omega) only [go_sem, reduceIte, Nat.reduceEqDiff, reduceCtorEq, Nat.reduceAdd, Nat.reduceMul, Int.reduceToNat, Int.reduceLE, Int.reduceLT, Int.reduceEq, Int.reduceNe, Nat.reduceLeDiff, Int.reducePow, Nat.reducePow, Nat.reduceLT, Nat.reduceSub, Nat.reduceMod, Nat.reduceDiv, slot_neg, slot_pos, T.ag_3, T.ag_4, T.ag_66, T.ag_71, T.ag_9, T.es_65, T.es_71, T.fo_79_1, T.fo_79_2, T.fo_79_3, T.fo_82_0, T.fo_82_1, T.gf_30, T.gf_31, T.gf_32, T.gf_34, T.gf_35, T.gf_38, T.gf_39, T.gf_9, T.ib_25, T.ib_28, T.ib_3, T.ib_9, T.ii_28, T.ii_3, T.ii_65, T.ii_71, T.ip_25, T.ip_28, T.ip_3, T.ip_9, T.pl_77, T.s8_28, T.s8_3, T.s8_65, T.s8_71, T.sl_28, T.sl_3, T.sl_65, T.sl_71, T.st_28, T.st_3, T.st_65, T.st_71, T.un_28, T.un_3, T.un_65, T.un_71, T.zo_3, T.zo_4, T.zo_66, T.zo_71, T.zo_77, init_a])
  refine CodeH.seq (fun r H => H.get h.next = .live (.cells [.int .i64 x1] .own) ∧ H.get (h.next + 1) = .live (.cells [.bool false] .own) ∧ h.next + 2 ≤ H.next ∧ Upd h H [] ∧ r 0 = s0 ∧ r 3 = .pointer (some ⟨h.next, 0, none⟩) ∧ r 4 = .pointer (some ⟨h.next + 1, 0, none⟩)) (CodeH.of_vc [] hm (by kernel_rfl) ?_) fun r H1 ⟨g1, g2, hn1, hU1, q0, q3, q4⟩ => ?_
  · simp (config := { dsimp := false, maxSteps := 10000000 }) (disch := omega) only [go_sem, reduceIte, Nat.reduceEqDiff, reduceCtorEq, Nat.reduceAdd, Nat.reduceMul, Int.reduceToNat, Int.reduceLE, Int.reduceLT, Int.reduceEq, Int.reduceNe, Nat.reduceLeDiff, Int.reducePow, Nat.reducePow, Nat.reduceLT, Nat.reduceSub, Nat.reduceMod, Nat.reduceDiv, slot_neg, slot_pos, T.ag_3, T.ag_4, T.ag_66, T.ag_71, T.ag_9, T.es_65, T.es_71, T.fo_79_1, T.fo_79_2, T.fo_79_3, T.fo_82_0, T.fo_82_1, T.gf_30, T.gf_31, T.gf_32, T.gf_34, T.gf_35, T.gf_38, T.gf_39, T.gf_9, T.ib_25, T.ib_28, T.ib_3, T.ib_9, T.ii_28, T.ii_3, T.ii_65, T.ii_71, T.ip_25, T.ip_28, T.ip_3, T.ip_9, T.pl_77, T.s8_28, T.s8_3, T.s8_65, T.s8_71, T.sl_28, T.sl_3, T.sl_65, T.sl_71, T.st_28, T.st_3, T.st_65, T.st_71, T.un_28, T.un_3, T.un_65, T.un_71, T.zo_3, T.zo_4, T.zo_66, T.zo_71, T.zo_77, init_a]
    refine (keeps_ph _).mono fun u H ⟨hu, hU⟩ => ?_
    subst hu
    simp (config := { dsimp := false, maxSteps := 10000000 }) (disch := omega) only [go_sem, reduceIte, Nat.reduceEqDiff, reduceCtorEq, Nat.reduceAdd, Nat.reduceMul, Int.reduceToNat, Int.reduceLE, Int.reduceLT, Int.reduceEq, Int.reduceNe, Nat.reduceLeDiff, Int.reducePow, Nat.reducePow, Nat.reduceLT, Nat.reduceSub, Nat.reduceMod, Nat.reduceDiv, slot_neg, slot_pos, T.ag_3, T.ag_4, T.ag_66, T.ag_71, T.ag_9, T.es_65, T.es_71, T.fo_79_1, T.fo_79_2, T.fo_79_3, T.fo_82_0, T.fo_82_1, T.gf_30, T.gf_31, T.gf_32, T.gf_34, T.gf_35, T.gf_38, T.gf_39, T.gf_9, T.ib_25, T.ib_28, T.ib_3, T.ib_9, T.ii_28, T.ii_3, T.ii_65, T.ii_71, T.ip_25, T.ip_28, T.ip_3, T.ip_9, T.pl_77, T.s8_28, T.s8_3, T.s8_65, T.s8_71, T.sl_28, T.sl_3, T.sl_65, T.sl_71, T.st_28, T.st_3, T.st_65, T.st_71, T.un_28, T.un_3, T.un_65, T.un_71, T.zo_3, T.zo_4, T.zo_66, T.zo_71, T.zo_77, init_a]
    have hU2 := ((Upd.alloc h (.cells [.int .i64 x1] .own) []).allocs (b := .cells [.bool false] .own)).trans hU (by simp)
    refine ⟨(hU.2 _ (by show h.next < h.next + 1 + 1; omega) (by simp)).trans (by simp (config := { dsimp := false }) (disch := omega) only [get_alloc, get_put, get_app, next_alloc, next_put, next_app, get_mask, get_unmask, next_mask, next_unmask, List.mem_cons, List.not_mem_nil, or_false, true_or, or_true, false_or, and_true, true_and, and_false, false_and, not_true_eq_false, not_false_eq_true, ne_eq, reduceIte, slot_neg, slot_pos]), (hU.2 _ (by show h.next + 1 < h.next + 1 + 1; omega) (by simp)).trans (by simp (config := { dsimp := false }) (disch := omega) only [get_alloc, get_put, get_app, next_alloc, next_put, next_app, get_mask, get_unmask, next_mask, next_unmask, List.mem_cons, List.not_mem_nil, or_false, true_or, or_true, false_or, and_true, true_and, and_false, false_and, not_true_eq_false, not_false_eq_true, ne_eq, reduceIte, slot_neg, slot_pos]), hU.1, hU2⟩
  refine CodeH.seq (fun r H => ∃ p id q5, h.next + 2 ≤ p ∧ h.next + 2 ≤ id ∧ h.next + 2 ≤ q5 ∧ q5 < H.next ∧ q5 ≠ p ∧ q5 ≠ id ∧ H.get q5 = .live (.cells [.pointer (some ⟨p, 0, none⟩)] .own) ∧ CaR isStrV H p id ⟨[], 30, 0, 0⟩ ∧ Upd H1 H [] ∧ r 0 = s0 ∧ r 3 = .pointer (some ⟨h.next, 0, none⟩) ∧ r 4 = .pointer (some ⟨h.next + 1, 0, none⟩) ∧ r 5 = .pointer (some ⟨q5, 0, none⟩) ∧ r 6 = .int .i64 0) (CodeH.of_vc [] hm (by kernel_rfl) ?_) fun r H2 ⟨p, id, q5b, hp, hid, hq5, hq5n, hq5p, hq5i, gq5, hC2, hU2, q0, q3, q4, q5, q6⟩ => ?_
  · simp (config := { dsimp := false, maxSteps := 10000000 }) (disch := omega) only [go_sem, reduceIte, Nat.reduceEqDiff, reduceCtorEq, Nat.reduceAdd, Nat.reduceMul, Int.reduceToNat, Int.reduceLE, Int.reduceLT, Int.reduceEq, Int.reduceNe, Nat.reduceLeDiff, Int.reducePow, Nat.reducePow, Nat.reduceLT, Nat.reduceSub, Nat.reduceMod, Nat.reduceDiv, slot_neg, slot_pos, T.ag_3, T.ag_4, T.ag_66, T.ag_71, T.ag_9, T.es_65, T.es_71, T.fo_79_1, T.fo_79_2, T.fo_79_3, T.fo_82_0, T.fo_82_1, T.gf_30, T.gf_31, T.gf_32, T.gf_34, T.gf_35, T.gf_38, T.gf_39, T.gf_9, T.ib_25, T.ib_28, T.ib_3, T.ib_9, T.ii_28, T.ii_3, T.ii_65, T.ii_71, T.ip_25, T.ip_28, T.ip_3, T.ip_9, T.pl_77, T.s8_28, T.s8_3, T.s8_65, T.s8_71, T.sl_28, T.sl_3, T.sl_65, T.sl_71, T.st_28, T.st_3, T.st_65, T.st_71, T.un_28, T.un_3, T.un_65, T.un_71, T.zo_3, T.zo_4, T.zo_66, T.zo_71, T.zo_77, q0, q3, q4]
    refine (NewS_ph H1 30 (by omega) (by omega)).mono fun u H ⟨p, id, h1, h2, hu, h3, h4⟩ => ?_
    subst hu
    simp (config := { dsimp := false, maxSteps := 10000000 }) (disch := omega) only [go_sem, reduceIte, Nat.reduceEqDiff, reduceCtorEq, Nat.reduceAdd, Nat.reduceMul, Int.reduceToNat, Int.reduceLE, Int.reduceLT, Int.reduceEq, Int.reduceNe, Nat.reduceLeDiff, Int.reducePow, Nat.reducePow, Nat.reduceLT, Nat.reduceSub, Nat.reduceMod, Nat.reduceDiv, slot_neg, slot_pos, T.ag_3, T.ag_4, T.ag_66, T.ag_71, T.ag_9, T.es_65, T.es_71, T.fo_79_1, T.fo_79_2, T.fo_79_3, T.fo_82_0, T.fo_82_1, T.gf_30, T.gf_31, T.gf_32, T.gf_34, T.gf_35, T.gf_38, T.gf_39, T.gf_9, T.ib_25, T.ib_28, T.ib_3, T.ib_9, T.ii_28, T.ii_3, T.ii_65, T.ii_71, T.ip_25, T.ip_28, T.ip_3, T.ip_9, T.pl_77, T.s8_28, T.s8_3, T.s8_65, T.s8_71, T.sl_28, T.sl_3, T.sl_65, T.sl_71, T.st_28, T.st_3, T.st_65, T.st_71, T.un_28, T.un_3, T.un_65, T.un_71, T.zo_3, T.zo_4, T.zo_66, T.zo_71, T.zo_77, q0, q3, q4]
    have hlt := h3.lt
    have hlt2 := h3.map.elim fun cl hM => hM.lt
    refine ⟨p, id, H.next, by omega, by omega, by have := h4.1; omega, Nat.lt_succ_self _, by omega, by omega, by rw [if_pos rfl], (h3.upd (F := []) (Upd.alloc _ _ _) (by simp) (by simp)).upd (F := [H.next]) ((Upd.refl _ _).put (.inl (by simp))) (by simp; omega) (by simp; omega), (h4.allocs).put (.inr (by have := h4.1; omega)), rfl⟩
  (refine CodeH.seq' (CodeH.of_vc [] hm (by kernel_rfl) ?_); simp (config := { dsimp := false, maxSteps := 10000000 }) (disch := omega) only [go_sem, reduceIte, Nat.reduceEqDiff, reduceCtorEq, Nat.reduceAdd, Nat.reduceMul, Int.reduceToNat, Int.reduceLE, Int.reduceLT, Int.reduceEq, Int.reduceNe, Nat.reduceLeDiff, Int.reducePow, Nat.reducePow, Nat.reduceLT, Nat.reduceSub, Nat.reduceMod, Nat.reduceDiv, slot_neg, slot_pos, T.ag_3, T.ag_4, T.ag_66, T.ag_71, T.ag_9, T.es_65, T.es_71, T.fo_79_1, T.fo_79_2, T.fo_79_3, T.fo_82_0, T.fo_82_1, T.gf_30, T.gf_31, T.gf_32, T.gf_34, T.gf_35, T.gf_38, T.gf_39, T.gf_9, T.ib_25, T.ib_28, T.ib_3, T.ib_9, T.ii_28, T.ii_3, T.ii_65, T.ii_71, T.ip_25, T.ip_28, T.ip_3, T.ip_9, T.pl_77, T.s8_28, T.s8_3, T.s8_65, T.s8_71, T.sl_28, T.sl_3, T.sl_65, T.sl_71, T.st_28, T.st_3, T.st_65, T.st_71, T.un_28, T.un_3, T.un_65, T.un_71, T.zo_3, T.zo_4, T.zo_66, T.zo_71, T.zo_77, init_a, q6])
  refine CodeH.seq (fun r H => H = H2.alloc (.cells [.slice none 0 0, .int .i64 30, .int .i64 0] .own) ∧ r 0 = s0 ∧ r 3 = .pointer (some ⟨h.next, 0, none⟩) ∧ r 4 = .pointer (some ⟨h.next + 1, 0, none⟩) ∧ r 5 = .pointer (some ⟨q5b, 0, none⟩) ∧ r 7 = .pointer (some ⟨H2.next, 0, none⟩)) (CodeH.of_vc [] hm (by kernel_rfl) ?_) fun r H3 ⟨hH3, q0, q3, q4, q5, q7⟩ => ?_
  · simp (config := { dsimp := false, maxSteps := 10000000 }) (disch := omega) only [go_sem, reduceIte, Nat.reduceEqDiff, reduceCtorEq, Nat.reduceAdd, Nat.reduceMul, Int.reduceToNat, Int.reduceLE, Int.reduceLT, Int.reduceEq, Int.reduceNe, Nat.reduceLeDiff, Int.reducePow, Nat.reducePow, Nat.reduceLT, Nat.reduceSub, Nat.reduceMod, Nat.reduceDiv, slot_neg, slot_pos, T.ag_3, T.ag_4, T.ag_66, T.ag_71, T.ag_9, T.es_65, T.es_71, T.fo_79_1, T.fo_79_2, T.fo_79_3, T.fo_82_0, T.fo_82_1, T.gf_30, T.gf_31, T.gf_32, T.gf_34, T.gf_35, T.gf_38, T.gf_39, T.gf_9, T.ib_25, T.ib_28, T.ib_3, T.ib_9, T.ii_28, T.ii_3, T.ii_65, T.ii_71, T.ip_25, T.ip_28, T.ip_3, T.ip_9, T.pl_77, T.s8_28, T.s8_3, T.s8_65, T.s8_71, T.sl_28, T.sl_3, T.sl_65, T.sl_71, T.st_28, T.st_3, T.st_65, T.st_71, T.un_28, T.un_3, T.un_65, T.un_71, T.zo_3, T.zo_4, T.zo_66, T.zo_71, T.zo_77, q0, q3, q4, q5]
  have hU3 : Upd H2 H3 [] := by rw [hH3]; exact Upd.alloc _ _ _
  have hn3 : H3.next = H2.next + 1 := by rw [hH3]; rfl
  have hpl := hC2.lt
  have hil := hC2.map.elim fun cl hM => hM.lt
  have hT0 : TT H3 p id H2.next [] (.slice none 0 0) ⟨[], 30, 0, 0⟩ := by
    refine ⟨hC2.upd hU3 (by simp) (by simp), ⟨by omega, by simp, by rw [hH3, get_alloc, if_pos rfl], OwnRow.nil _, by simp⟩, ⟨by show (1:Int) ≤ 30; decide, ⟨by simp, by show (0:Int) ≤ farC; decide⟩, by simp, by simp, by simp, by show (0:Int) ≤ 30 ∧ (30:Int) ≤ 10000; omega⟩, fun x hx => by simp at hx, fun x hx => by simp at hx, by omega, by omega, by simp, by simp⟩
  have g31 : H3.get h.next = .live (.cells [.int .i64 x1] .own) := (hU3.2 _ (by have := hU2.1; omega) (by simp)).trans ((hU2.2 _ (by omega) (by simp)).trans g1)
  have g32 : H3.get (h.next + 1) = .live (.cells [.bool false] .own) := (hU3.2 _ (by have := hU2.1; omega) (by simp)).trans ((hU2.2 _ (by omega) (by simp)).trans g2)
  have g35 : H3.get q5b = .live (.cells [.pointer (some ⟨p, 0, none⟩)] .own) := (hU3.2 _ (by omega) (by simp)).trans gq5
  have hU03 : Upd h H3 [] := (hU1.trans hU2 (by simp)).trans hU3 (by simp)
  generalize hmm : H2.next = m at *
  clear hH3 hU3 hU2 hC2 gq5 g1 g2
  have hr3 : RowIn tuE H3 s0 l0 := hr0.upd fun A n st e => hU03.2 _ (hlt0 A n st e) (by simp)
  obtain ⟨A1, st1, e1⟩ := hr0.form
  refine CodeH.seq (fun r H => (∃ (c : Ca) (D : List Nat) (v : Value), TT H p id m D v c ∧ c.now = 0 ∧ (∀ d ∈ D, H3.next ≤ d) ∧ Upd H3 H [p, id, m]) ∧ r 3 = .pointer (some ⟨h.next, 0, none⟩) ∧ r 4 = .pointer (some ⟨h.next + 1, 0, none⟩) ∧ r 5 = .pointer (some ⟨q5b, 0, none⟩) ∧ r 7 = .pointer (some ⟨m, 0, none⟩)) (CodeH.of_vc [] hm (by kernel_rfl) ?_) fun r H4 ⟨⟨c, D, v, hT, hnow, hD, hU4⟩, q3, q4, q5, q7⟩ => ?_
  · simp (config := { dsimp := false, maxSteps := 10000000 }) (disch := omega) only [go_sem, reduceIte, Nat.reduceEqDiff, reduceCtorEq, Nat.reduceAdd, Nat.reduceMul, Int.reduceToNat, Int.reduceLE, Int.reduceLT, Int.reduceEq, Int.reduceNe, Nat.reduceLeDiff, Int.reducePow, Nat.reducePow, Nat.reduceLT, Nat.reduceSub, Nat.reduceMod, Nat.reduceDiv, slot_neg, slot_pos, T.ag_3, T.ag_4, T.ag_66, T.ag_71, T.ag_9, T.es_65, T.es_71, T.fo_79_1, T.fo_79_2, T.fo_79_3, T.fo_82_0, T.fo_82_1, T.gf_30, T.gf_31, T.gf_32, T.gf_34, T.gf_35, T.gf_38, T.gf_39, T.gf_9, T.ib_25, T.ib_28, T.ib_3, T.ib_9, T.ii_28, T.ii_3, T.ii_65, T.ii_71, T.ip_25, T.ip_28, T.ip_3, T.ip_9, T.pl_77, T.s8_28, T.s8_3, T.s8_65, T.s8_71, T.sl_28, T.sl_3, T.sl_65, T.sl_71, T.st_28, T.st_3, T.st_65, T.st_71, T.un_28, T.un_3, T.un_65, T.un_71, T.zo_3, T.zo_4, T.zo_66, T.zo_71, T.zo_77]
    refine loop_introC (fun r H => ∃ (i : Nat) (c : Ca) (D : List Nat) (v : Value), i ≤ l0.length ∧ i ≤ 40 ∧ TT H p id m D v c ∧ c.puts ≤ i ∧ c.now = 0 ∧ (∀ d ∈ D, H3.next ≤ d) ∧ Upd H3 H [p, id, m] ∧ r 0 = s0 ∧ r 3 = .pointer (some ⟨h.next, 0, none⟩) ∧ r 4 = .pointer (some ⟨h.next + 1, 0, none⟩) ∧ r 5 = .pointer (some ⟨q5b, 0, none⟩) ∧ r 7 = .pointer (some ⟨m, 0, none⟩) ∧ r 8 = .int .i64 i) (fun r _ => match r 8 with | .int _ i => 40 - i.toNat | _ => 0) ?_ ?_
    · exact ⟨0, _, _, _, by omega, by omega, hT0, by simp, rfl, by simp, Upd.refl _ _, by simp [upd, q0], by simp [upd, q3], by simp [upd, q4], by simp [upd, q5], by simp [upd, q7], by simp [upd]⟩
    · rintro n hok r H ⟨i, c, D, v, hi, hi40, hT, hpu, hnow, hD, hU, q0, q3, q4, q5, q7, q8⟩
      clear hT0
      by_cases hlt : i < l0.length ∧ i < 40
      · have hlt' : ((i : Int) < (l0.length : Int)) = True := eq_true (by omega)
        have h40 : ((i : Int) < 40) = True := eq_true (by omega)
        refine CodeH.seq' (CodeH.of_vc [] hm (okl hok) ?_)
        replace hok := okr hok
        simp (config := { dsimp := false, maxSteps := 10000000 }) (disch := omega) only [go_sem, reduceIte, Nat.reduceEqDiff, reduceCtorEq, Nat.reduceAdd, Nat.reduceMul, Int.reduceToNat, Int.reduceLE, Int.reduceLT, Int.reduceEq, Int.reduceNe, Nat.reduceLeDiff, Int.reducePow, Nat.reducePow, Nat.reduceLT, Nat.reduceSub, Nat.reduceMod, Nat.reduceDiv, slot_neg, slot_pos, T.ag_3, T.ag_4, T.ag_66, T.ag_71, T.ag_9, T.es_65, T.es_71, T.fo_79_1, T.fo_79_2, T.fo_79_3, T.fo_82_0, T.fo_82_1, T.gf_30, T.gf_31, T.gf_32, T.gf_34, T.gf_35, T.gf_38, T.gf_39, T.gf_9, T.ib_25, T.ib_28, T.ib_3, T.ib_9, T.ii_28, T.ii_3, T.ii_65, T.ii_71, T.ip_25, T.ip_28, T.ip_3, T.ip_9, T.pl_77, T.s8_28, T.s8_3, T.s8_65, T.s8_71, T.sl_28, T.sl_3, T.sl_65, T.sl_71, T.st_28, T.st_3, T.st_65, T.st_71, T.un_28, T.un_3, T.un_65, T.un_71, T.zo_3, T.zo_4, T.zo_66, T.zo_71, T.zo_77, q0, q8, e1, hlt', h40]
        have hx : l0[i]? = some l0[i] := List.getElem?_eq_getElem hlt.1
        rcases hr3 with ⟨_, hnil⟩ | ⟨qe, offe, vse, oe, he', hqe, hRe⟩
        · rw [hnil] at hlt; simp at hlt
        have hqel : qe < h.next := hlt0 _ _ _ he'
        have hxa := hRe.at hx
        have y1 := hRe.cell hx (j := 1) (by decide)
        have y2 := hRe.cell hx (j := 2) (by decide)
        have y3 := hRe.cell hx (j := 3) (by decide)
        generalize l0[i] = x at hx y1 y2 y3
        obtain ⟨what, key, val, keep, at_⟩ := x
        have hen : tuE.enc (what, key, val, keep, at_) = [.int .i64 what, .string (str key), .int .i64 val, .int .i64 keep, .int .i64 at_] := rfl
        rw [hen, show tuE.k = 5 from rfl] at y1 y2 y3
        simp only [List.getElem?_cons_succ, List.getElem?_cons_zero] at y1 y2 y3
        have gq : H.get qe = .live (.cells vse oe) := (hU.2 qe (by have := hU03.1; omega) (by simp; omega)).trans hqe
        have gc : H.get q5b = .live (.cells [.pointer (some ⟨p, 0, none⟩)] .own) := (hU.2 q5b (by omega) (by simp; omega)).trans g35
        rw [he'] at q0
        rw [show tuE.k = 5 from rfl] at q0
        refine CodeH.seq' (CodeH.block ?_)
        have hokb := okb (okl hok)
        replace hok := okr hok
        refine CodeH.seq' (CodeH.of_vc [] hm (okl hokb) ?_)
        replace hokb := okr hokb
        simp (config := { dsimp := false, maxSteps := 10000000 }) (disch := omega) only [go_sem, reduceIte, Nat.reduceEqDiff, reduceCtorEq, Nat.reduceAdd, Nat.reduceMul, Int.reduceToNat, Int.reduceLE, Int.reduceLT, Int.reduceEq, Int.reduceNe, Nat.reduceLeDiff, Int.reducePow, Nat.reducePow, Nat.reduceLT, Nat.reduceSub, Nat.reduceMod, Nat.reduceDiv, slot_neg, slot_pos, T.ag_3, T.ag_4, T.ag_66, T.ag_71, T.ag_9, T.es_65, T.es_71, T.fo_79_1, T.fo_79_2, T.fo_79_3, T.fo_82_0, T.fo_82_1, T.gf_30, T.gf_31, T.gf_32, T.gf_34, T.gf_35, T.gf_38, T.gf_39, T.gf_9, T.ib_25, T.ib_28, T.ib_3, T.ib_9, T.ii_28, T.ii_3, T.ii_65, T.ii_71, T.ip_25, T.ip_28, T.ip_3, T.ip_9, T.pl_77, T.s8_28, T.s8_3, T.s8_65, T.s8_71, T.sl_28, T.sl_3, T.sl_65, T.sl_71, T.st_28, T.st_3, T.st_65, T.st_71, T.un_28, T.un_3, T.un_65, T.un_71, T.zo_3, T.zo_4, T.zo_66, T.zo_71, T.zo_77, q0, q8, hlt', gq, y3]
        obtain ⟨k, hk1, hk2⟩ := modm keep 100 (by omega)
        rw [hk2]
        have hpH := hT.ca.lt
        have hidH := hT.ca.map.elim fun cl hM => hM.lt
        have hmH := hT.rf.lt
        have hDH := hT.rf.row.lt
        have hbad : ¬ putBad k 0 := by unfold putBad farC; omega
        refine CodeH.gen (fun r' h' => H = h' ∧ r' 0 = s0 ∧ r' 3 = .pointer (some ⟨h.next, 0, none⟩) ∧ r' 4 = .pointer (some ⟨h.next + 1, 0, none⟩) ∧ r' 5 = .pointer (some ⟨q5b, 0, none⟩) ∧ r' 7 = .pointer (some ⟨m, 0, none⟩) ∧ r' 8 = .int .i64 i ∧ r' 9 = .int .i64 k) ⟨rfl, by simp [upd, q0, he']; rfl, by simp [upd, q3], by simp [upd, q4], by simp [upd, q5], by simp [upd, q7], by simp [upd, q8], by simp [upd]⟩ fun r' h' ⟨hh, p0, p3, p4, p5, p7, p8, p9⟩ => ?_
        subst hh
        have P0 : r' 0 = .slice (some ⟨qe, offe, none⟩) l0.length 5 := by rw [p0, he']; rfl
        refine CodeH.seq (fun r' H' => r' 0 = s0 ∧ r' 3 = .pointer (some ⟨h.next, 0, none⟩) ∧ r' 4 = .pointer (some ⟨h.next + 1, 0, none⟩) ∧ r' 5 = .pointer (some ⟨q5b, 0, none⟩) ∧ r' 7 = .pointer (some ⟨m, 0, none⟩) ∧ r' 8 = .int .i64 i ∧ r' 9 = .int .i64 k ∧ (∃ b, CaR isStrV H' p id (putS c (.string (str key)) (.int .i64 val) k 0 b ⟨rfl, rfl⟩)) ∧ Upd H H' [p, id]) (CodeH.of_vc [11] hm (okl hokb) ?_) ?_
        · refine draw_plan [p, id] (.takeS 0 (.takeS 1 (.takeS 2 (.takeS 3 (.takeS 4 (.takeS 5 (.takeS 6 (.takeS 7 (.takeS 8 (.takeS 9 (.takeS 10 (.takeS 11 (.alt 12 .done .stop))))))))))))) hm (by kernel_rfl) (by kernel_rfl) ?_
          have gcm : (H.mask [p, id]).get q5b = .live (.cells [.pointer (some ⟨p, 0, none⟩)] .lock) := by rw [get_mask, if_neg (by simp; omega), gc]; rfl
          have gqm : (H.mask [p, id]).get qe = .live (.cells vse oe.lk) := by rw [get_mask, if_neg (by simp; omega), gq, lock_live', lock_cells]
          have hCm := hT.ca.mask (wr := [p, id]) (by simp) (by simp)
          have hmn : (H.mask [p, id]).next = H.next := rfl
          generalize hHm : H.mask [p, id] = Hm at *
          simp (config := { dsimp := false, maxSteps := 10000000 }) (disch := omega) only [go_sem, reduceIte, Nat.reduceEqDiff, reduceCtorEq, Nat.reduceAdd, Nat.reduceMul, Int.reduceToNat, Int.reduceLE, Int.reduceLT, Int.reduceEq, Int.reduceNe, Nat.reduceLeDiff, Int.reducePow, Nat.reducePow, Nat.reduceLT, Nat.reduceSub, Nat.reduceMod, Nat.reduceDiv, slot_neg, slot_pos, T.ag_3, T.ag_4, T.ag_66, T.ag_71, T.ag_9, T.es_65, T.es_71, T.fo_79_1, T.fo_79_2, T.fo_79_3, T.fo_82_0, T.fo_82_1, T.gf_30, T.gf_31, T.gf_32, T.gf_34, T.gf_35, T.gf_38, T.gf_39, T.gf_9, T.ib_25, T.ib_28, T.ib_3, T.ib_9, T.ii_28, T.ii_3, T.ii_65, T.ii_71, T.ip_25, T.ip_28, T.ip_3, T.ip_9, T.pl_77, T.s8_28, T.s8_3, T.s8_65, T.s8_71, T.sl_28, T.sl_3, T.sl_65, T.sl_71, T.st_28, T.st_3, T.st_65, T.st_71, T.un_28, T.un_3, T.un_65, T.un_71, T.zo_3, T.zo_4, T.zo_66, T.zo_71, T.zo_77, P0, p5, p8, p9, hlt', gcm, gqm, y1, y2]
          refine (PutS_ph Hm p id c (.string (str key)) (.int .i64 val) k 0 ⟨_, rfl⟩ ⟨_, rfl⟩ hCm hT.ok (by omega) (by unfold farC; omega) (by omega) (by decide) (by omega) ⟨rfl, rfl⟩).mono fun u H2 ⟨_, ⟨b, k1⟩, k2⟩ => ?_
          simp (config := { dsimp := false, maxSteps := 10000000 }) (disch := omega) only [go_sem, reduceIte, Nat.reduceEqDiff, reduceCtorEq, Nat.reduceAdd, Nat.reduceMul, Int.reduceToNat, Int.reduceLE, Int.reduceLT, Int.reduceEq, Int.reduceNe, Nat.reduceLeDiff, Int.reducePow, Nat.reducePow, Nat.reduceLT, Nat.reduceSub, Nat.reduceMod, Nat.reduceDiv, slot_neg, slot_pos, T.ag_3, T.ag_4, T.ag_66, T.ag_71, T.ag_9, T.es_65, T.es_71, T.fo_79_1, T.fo_79_2, T.fo_79_3, T.fo_82_0, T.fo_82_1, T.gf_30, T.gf_31, T.gf_32, T.gf_34, T.gf_35, T.gf_38, T.gf_39, T.gf_9, T.ib_25, T.ib_28, T.ib_3, T.ib_9, T.ii_28, T.ii_3, T.ii_65, T.ii_71, T.ip_25, T.ip_28, T.ip_3, T.ip_9, T.pl_77, T.s8_28, T.s8_3, T.s8_65, T.s8_71, T.sl_28, T.sl_3, T.sl_65, T.sl_71, T.st_28, T.st_3, T.st_65, T.st_71, T.un_28, T.un_3, T.un_65, T.un_71, T.zo_3, T.zo_4, T.zo_66, T.zo_71, T.zo_77, P0, p3, p4, p5, p7, p8, p9]
          have k3 := k2.1
          refine ⟨by rw [he']; rfl, ⟨b, k1.unmask (by simp) (by simp)⟩, (Upd.refl H [p, id]).unmask (by omega) (by simp)⟩
        · clear p0 p3 p4 p5 p7 p8 p9 P0
          rintro r2 H2 ⟨p0, p3, p4, p5, p7, p8, p9, ⟨b, hC2⟩, hU2⟩
          have P0 : r2 0 = .slice (some ⟨qe, offe, none⟩) l0.length 5 := by rw [p0, he']; rfl
          have hR2 := hT.rf.upd hU2 (by simp; exact ⟨hT.mp, hT.mi⟩) (fun d hd => by simp; exact ⟨fun e => hT.pD (e ▸ hd), fun e => hT.iD (e ▸ hd)⟩)
          have n2 := hU2.1
          have hC2l := hC2.lt
          have gq2 : H2.get qe = .live (.cells vse oe) := (hU2.2 qe (by have := hU03.1; have := hU.1; omega) (by simp; omega)).trans gq
          replace hokb := okr hokb
          refine CodeH.of_vc [12] hm hokb ?_
          refine draw_plan (m :: D) (.takeS 0 (.takeS 1 (.takeS 2 (.takeS 3 (.takeS 4 (.takeS 5 (.takeS 6 (.takeS 7 (.takeS 8 (.takeS 9 (.takeS 10 (.takeS 11 (.alt 12 .done .stop))))))))))))) hm (by kernel_rfl) (by kernel_rfl) ?_
          have hqD : qe ∉ m :: D := fun hd => by
            rcases List.mem_cons.1 hd with e | hd
            · omega
            · have := hD qe hd; have := hU03.1; omega
          have gqm : (H2.mask (m :: D)).get qe = .live (.cells vse oe.lk) := by rw [get_mask, if_neg hqD, gq2, lock_live', lock_cells]
          have hRm := hR2.mask (wr := m :: D) (by simp) (fun d hd => by simp [hd])
          have hmn : (H2.mask (m :: D)).next = H2.next := rfl
          generalize hHm : H2.mask (m :: D) = Hm at *
          simp (config := { dsimp := false, maxSteps := 10000000 }) (disch := omega) only [go_sem, reduceIte, Nat.reduceEqDiff, reduceCtorEq, Nat.reduceAdd, Nat.reduceMul, Int.reduceToNat, Int.reduceLE, Int.reduceLT, Int.reduceEq, Int.reduceNe, Nat.reduceLeDiff, Int.reducePow, Nat.reducePow, Nat.reduceLT, Nat.reduceSub, Nat.reduceMod, Nat.reduceDiv, slot_neg, slot_pos, T.ag_3, T.ag_4, T.ag_66, T.ag_71, T.ag_9, T.es_65, T.es_71, T.fo_79_1, T.fo_79_2, T.fo_79_3, T.fo_82_0, T.fo_82_1, T.gf_30, T.gf_31, T.gf_32, T.gf_34, T.gf_35, T.gf_38, T.gf_39, T.gf_9, T.ib_25, T.ib_28, T.ib_3, T.ib_9, T.ii_28, T.ii_3, T.ii_65, T.ii_71, T.ip_25, T.ip_28, T.ip_3, T.ip_9, T.pl_77, T.s8_28, T.s8_3, T.s8_65, T.s8_71, T.sl_28, T.sl_3, T.sl_65, T.sl_71, T.st_28, T.st_3, T.st_65, T.st_71, T.un_28, T.un_3, T.un_65, T.un_71, T.zo_3, T.zo_4, T.zo_66, T.zo_71, T.zo_77, P0, p7, p8, p9, hlt', gqm, y1, y2]
          refine (Rput_ph Hm m D v c key val k 0 b hRm hT.str hT.ok (by omega) (by unfold farC; omega) (by omega) (by decide) ⟨rfl, rfl⟩).mono fun u H4 ⟨_, D4, v4, k1, k2, k3⟩ => ?_
          have k4 := k3.1
          simp (config := { dsimp := false, maxSteps := 10000000 }) (disch := omega) only [go_sem, reduceIte, Nat.reduceEqDiff, reduceCtorEq, Nat.reduceAdd, Nat.reduceMul, Int.reduceToNat, Int.reduceLE, Int.reduceLT, Int.reduceEq, Int.reduceNe, Nat.reduceLeDiff, Int.reducePow, Nat.reducePow, Nat.reduceLT, Nat.reduceSub, Nat.reduceMod, Nat.reduceDiv, slot_neg, slot_pos, T.ag_3, T.ag_4, T.ag_66, T.ag_71, T.ag_9, T.es_65, T.es_71, T.fo_79_1, T.fo_79_2, T.fo_79_3, T.fo_82_0, T.fo_82_1, T.gf_30, T.gf_31, T.gf_32, T.gf_34, T.gf_35, T.gf_38, T.gf_39, T.gf_9, T.ib_25, T.ib_28, T.ib_3, T.ib_9, T.ii_28, T.ii_3, T.ii_65, T.ii_71, T.ip_25, T.ip_28, T.ip_3, T.ip_9, T.pl_77, T.s8_28, T.s8_3, T.s8_65, T.s8_71, T.sl_28, T.sl_3, T.sl_65, T.sl_71, T.st_28, T.st_3, T.st_65, T.st_71, T.un_28, T.un_3, T.un_65, T.un_71, T.zo_3, T.zo_4, T.zo_66, T.zo_71, T.zo_77]
          refine CodeH.of_vc [] hm hok ?_
          have wi : IntKind.i64.wrap ((i : Int) + 1) = ((i + 1 : Nat) : Int) := by rw [i64wrap] <;> omega
          simp (config := { dsimp := false, maxSteps := 10000000 }) (disch := omega) only [go_sem, reduceIte, Nat.reduceEqDiff, reduceCtorEq, Nat.reduceAdd, Nat.reduceMul, Int.reduceToNat, Int.reduceLE, Int.reduceLT, Int.reduceEq, Int.reduceNe, Nat.reduceLeDiff, Int.reducePow, Nat.reducePow, Nat.reduceLT, Nat.reduceSub, Nat.reduceMod, Nat.reduceDiv, slot_neg, slot_pos, T.ag_3, T.ag_4, T.ag_66, T.ag_71, T.ag_9, T.es_65, T.es_71, T.fo_79_1, T.fo_79_2, T.fo_79_3, T.fo_82_0, T.fo_82_1, T.gf_30, T.gf_31, T.gf_32, T.gf_34, T.gf_35, T.gf_38, T.gf_39, T.gf_9, T.ib_25, T.ib_28, T.ib_3, T.ib_9, T.ii_28, T.ii_3, T.ii_65, T.ii_71, T.ip_25, T.ip_28, T.ip_3, T.ip_9, T.pl_77, T.s8_28, T.s8_3, T.s8_65, T.s8_71, T.sl_28, T.sl_3, T.sl_65, T.sl_71, T.st_28, T.st_3, T.st_65, T.st_71, T.un_28, T.un_3, T.un_65, T.un_71, T.zo_3, T.zo_4, T.zo_66, T.zo_71, T.zo_77, P0, p3, p4, p5, p7, p8, wi]
          have hR4 : RfR (H2.unmask (m :: D) H4) m D4 v4 (putS c (.string (str key)) (.int .i64 val) k 0 b ⟨rfl, rfl⟩) := k1.unmask (by simp) fun d hd => .inr (by have := k2 d hd; omega)
          have hU4 : Upd H2 (H2.unmask (m :: D) H4) (m :: D) := (Upd.refl H2 (m :: D)).unmask (by omega) (fun w hw => .inl hw)
          have hC4 : CaR isStrV (H2.unmask (m :: D) H4) p id (putS c (.string (str key)) (.int .i64 val) k 0 b ⟨rfl, rfl⟩) := hC2.upd hU4 (by simp; exact ⟨hT.mp.symm, hT.pD⟩) (by simp; exact ⟨hT.mi.symm, hT.iD⟩)
          have hnow4 : (putS c (.string (str key)) (.int .i64 val) k 0 b ⟨rfl, rfl⟩).now = 0 := by
            have : (putS c (.string (str key)) (.int .i64 val) k 0 b ⟨rfl, rfl⟩).now = nowC c 0 := by unfold putS; dsimp only; split <;> rfl
            rw [this]; exact nowZ c hnow
          have hpu4 := puts_put c (.string (str key)) (.int .i64 val) k 0 b ⟨rfl, rfl⟩
          refine ⟨⟨i + 1, _, D4, v4, hlt.1, hlt.2, ⟨hC4, hR4, hT.ok.put, hT.str.put ⟨_, rfl⟩ _ _ _ _, hT.int.put ⟨_, rfl⟩ _ _ _ _, hT.mp, hT.mi, fun hd => by have := k2 p hd; omega, fun hd => by have := k2 id hd; omega⟩, by omega, hnow4, fun d hd => by have := k2 d hd; have := hU.1; omega, ?_, by rw [← e1, he']; rfl, rfl⟩, by omega⟩
          exact (hU.trans hU2 (by simp)).trans hU4 fun d hd => by
            rcases List.mem_cons.1 hd with e | hd
            · exact .inl (by simp [e])
            · exact .inr (hD d hd)
      · by_cases h1 : i < l0.length
        · have hlt' : ((i : Int) < (l0.length : Int)) = True := eq_true (by omega)
          have h40 : ((i : Int) < 40) = False := eq_false (by omega)
          refine CodeH.seq' (CodeH.of_vc [] hm (okl hok) ?_)
          simp (config := { dsimp := false, maxSteps := 10000000 }) (disch := omega) only [go_sem, reduceIte, Nat.reduceEqDiff, reduceCtorEq, Nat.reduceAdd, Nat.reduceMul, Int.reduceToNat, Int.reduceLE, Int.reduceLT, Int.reduceEq, Int.reduceNe, Nat.reduceLeDiff, Int.reducePow, Nat.reducePow, Nat.reduceLT, Nat.reduceSub, Nat.reduceMod, Nat.reduceDiv, slot_neg, slot_pos, T.ag_3, T.ag_4, T.ag_66, T.ag_71, T.ag_9, T.es_65, T.es_71, T.fo_79_1, T.fo_79_2, T.fo_79_3, T.fo_82_0, T.fo_82_1, T.gf_30, T.gf_31, T.gf_32, T.gf_34, T.gf_35, T.gf_38, T.gf_39, T.gf_9, T.ib_25, T.ib_28, T.ib_3, T.ib_9, T.ii_28, T.ii_3, T.ii_65, T.ii_71, T.ip_25, T.ip_28, T.ip_3, T.ip_9, T.pl_77, T.s8_28, T.s8_3, T.s8_65, T.s8_71, T.sl_28, T.sl_3, T.sl_65, T.sl_71, T.st_28, T.st_3, T.st_65, T.st_71, T.un_28, T.un_3, T.un_65, T.un_71, T.zo_3, T.zo_4, T.zo_66, T.zo_71, T.zo_77, q0, q8, e1, hlt', h40]
          exact ⟨⟨c, D, v, hT, hnow, hD, hU⟩, q3, q4, q5, q7⟩
        · have hlt' : ((i : Int) < (l0.length : Int)) = False := eq_false (by omega)
          refine CodeH.seq' (CodeH.of_vc [] hm (okl hok) ?_)
          simp (config := { dsimp := false, maxSteps := 10000000 }) (disch := omega) only [go_sem, reduceIte, Nat.reduceEqDiff, reduceCtorEq, Nat.reduceAdd, Nat.reduceMul, Int.reduceToNat, Int.reduceLE, Int.reduceLT, Int.reduceEq, Int.reduceNe, Nat.reduceLeDiff, Int.reducePow, Nat.reducePow, Nat.reduceLT, Nat.reduceSub, Nat.reduceMod, Nat.reduceDiv, slot_neg, slot_pos, T.ag_3, T.ag_4, T.ag_66, T.ag_71, T.ag_9, T.es_65, T.es_71, T.fo_79_1, T.fo_79_2, T.fo_79_3, T.fo_82_0, T.fo_82_1, T.gf_30, T.gf_31, T.gf_32, T.gf_34, T.gf_35, T.gf_38, T.gf_39, T.gf_9, T.ib_25, T.ib_28, T.ib_3, T.ib_9, T.ii_28, T.ii_3, T.ii_65, T.ii_71, T.ip_25, T.ip_28, T.ip_3, T.ip_9, T.pl_77, T.s8_28, T.s8_3, T.s8_65, T.s8_71, T.sl_28, T.sl_3, T.sl_65, T.sl_71, T.st_28, T.st_3, T.st_65, T.st_71, T.un_28, T.un_3, T.un_65, T.un_71, T.zo_3, T.zo_4, T.zo_66, T.zo_71, T.zo_77, q0, q8, e1, hlt']
          exact ⟨⟨c, D, v, hT, hnow, hD, hU⟩, q3, q4, q5, q7⟩
  have hpH := hT.ca.lt
  have hidH := hT.ca.map.elim fun cl hM => hM.lt
  have hmH := hT.rf.lt
  have hDH := hT.rf.row.lt
  have hn03 := hU03.1
  have hn4 := hU4.1
  have g41 : H4.get h.next = .live (.cells [.int .i64 x1] .own) := (hU4.2 _ (by omega) (by simp; omega)).trans g31
  have g42 : H4.get (h.next + 1) = .live (.cells [.bool false] .own) := (hU4.2 _ (by omega) (by simp; omega)).trans g32
  have g45 : H4.get q5b = .live (.cells [.pointer (some ⟨p, 0, none⟩)] .own) := (hU4.2 _ (by omega) (by simp; omega)).trans g35
  clear g31 g32 g35 hr3 hT0
  -- the document's list
  refine CodeH.seq (fun r H => ∃ u s Ds q10, H4.next ≤ q10 ∧ q10 < H.next ∧ H.get q10 = .live (.cells [u] .own) ∧ OwnRow refE H u Ds s ∧ (∀ d ∈ Ds, H4.next ≤ d ∧ d ≠ q10) ∧ s.Perm (timeC c 0).l ∧ s.Pairwise leT ∧ Upd H4 H [m] ∧ r 3 = .pointer (some ⟨h.next, 0, none⟩) ∧ r 4 = .pointer (some ⟨h.next + 1, 0, none⟩) ∧ r 5 = .pointer (some ⟨q5b, 0, none⟩) ∧ r 10 = .pointer (some ⟨q10, 0, none⟩)) (CodeH.of_vc [] hm (by kernel_rfl) ?_) fun r H5 ⟨u5, s, Ds, q10b, hq1, hq2, g510, hO5, hDs, hs1, hs2, hU5, q3, q4, q5, q10⟩ => ?_
  · simp (config := { dsimp := false, maxSteps := 10000000 }) (disch := omega) only [go_sem, reduceIte, Nat.reduceEqDiff, reduceCtorEq, Nat.reduceAdd, Nat.reduceMul, Int.reduceToNat, Int.reduceLE, Int.reduceLT, Int.reduceEq, Int.reduceNe, Nat.reduceLeDiff, Int.reducePow, Nat.reducePow, Nat.reduceLT, Nat.reduceSub, Nat.reduceMod, Nat.reduceDiv, slot_neg, slot_pos, T.ag_3, T.ag_4, T.ag_66, T.ag_71, T.ag_9, T.es_65, T.es_71, T.fo_79_1, T.fo_79_2, T.fo_79_3, T.fo_82_0, T.fo_82_1, T.gf_30, T.gf_31, T.gf_32, T.gf_34, T.gf_35, T.gf_38, T.gf_39, T.gf_9, T.ib_25, T.ib_28, T.ib_3, T.ib_9, T.ii_28, T.ii_3, T.ii_65, T.ii_71, T.ip_25, T.ip_28, T.ip_3, T.ip_9, T.pl_77, T.s8_28, T.s8_3, T.s8_65, T.s8_71, T.sl_28, T.sl_3, T.sl_65, T.sl_71, T.st_28, T.st_3, T.st_65, T.st_71, T.un_28, T.un_3, T.un_65, T.un_71, T.zo_3, T.zo_4, T.zo_66, T.zo_71, T.zo_77, q7]
    refine (Rall_ph H4 m D v c 0 hT.rf hT.ok).mono fun u H ⟨⟨D2, v2, f1, f2, f3⟩, s, Ds, f4, f5, f6, f7⟩ => ?_
    have ho := f4.row.one
    have hDl := f4.lt
    have f8 := f3.1
    simp (config := { dsimp := false, maxSteps := 10000000 }) (disch := omega) only [go_sem, reduceIte, Nat.reduceEqDiff, reduceCtorEq, Nat.reduceAdd, Nat.reduceMul, Int.reduceToNat, Int.reduceLE, Int.reduceLT, Int.reduceEq, Int.reduceNe, Nat.reduceLeDiff, Int.reducePow, Nat.reducePow, Nat.reduceLT, Nat.reduceSub, Nat.reduceMod, Nat.reduceDiv, slot_neg, slot_pos, T.ag_3, T.ag_4, T.ag_66, T.ag_71, T.ag_9, T.es_65, T.es_71, T.fo_79_1, T.fo_79_2, T.fo_79_3, T.fo_82_0, T.fo_82_1, T.gf_30, T.gf_31, T.gf_32, T.gf_34, T.gf_35, T.gf_38, T.gf_39, T.gf_9, T.ib_25, T.ib_28, T.ib_3, T.ib_9, T.ii_28, T.ii_3, T.ii_65, T.ii_71, T.ip_25, T.ip_28, T.ip_3, T.ip_9, T.pl_77, T.s8_28, T.s8_3, T.s8_65, T.s8_71, T.sl_28, T.sl_3, T.sl_65, T.sl_71, T.st_28, T.st_3, T.st_65, T.st_71, T.un_28, T.un_3, T.un_65, T.un_71, T.zo_3, T.zo_4, T.zo_66, T.zo_71, T.zo_77, q3, q4, q5, ho.1, ho.2]
    refine ⟨u, s, Ds, H.next, by omega, Nat.lt_succ_self _, by rw [if_pos rfl], ?_, fun d hd => ⟨f5 d hd, by have := hDl d hd; omega⟩, f6, f7, (f3.allocs).put (.inr (by omega)), rfl⟩
    exact (f4.upd (F := []) (Upd.alloc _ _ _) (by simp)).keep (Nat.le_refl _) fun d hd => by rw [get_put, if_neg (by have := hDl d hd; omega)]
  have n5 := hU5.1
  have hC5 : CaR isStrV H5 p id c := hT.ca.upd hU5 (by simp; exact hT.mp.symm) (by simp; exact hT.mi.symm)
  have g51 := (hU5.2 h.next (by omega) (by simp; omega)).trans g41
  have g52 := (hU5.2 (h.next + 1) (by omega) (by simp; omega)).trans g42
  have g55 := (hU5.2 q5b (by omega) (by simp; omega)).trans g45
  have hOk1 := hT.ok.time 0
  -- all
  refine CodeH.seq (fun r H => ∃ b vb Db, H5.next ≤ b ∧ b < H.next ∧ r 11 = .func (.func 68) #[] #[.pointer (some ⟨b, 0, none⟩)] ∧ H.get b = .live (.cells [vb] .own) ∧ OwnRow thE H vb Db s ∧ (∀ d ∈ Db, H5.next ≤ d ∧ d ≠ b) ∧ CaR isStrV H p id (timeC c 0) ∧ Upd H5 H [p, id] ∧ r 3 = .pointer (some ⟨h.next, 0, none⟩) ∧ r 4 = .pointer (some ⟨h.next + 1, 0, none⟩) ∧ r 5 = .pointer (some ⟨q5b, 0, none⟩) ∧ r 10 = .pointer (some ⟨q10b, 0, none⟩)) (CodeH.of_vc [] hm (by kernel_rfl) ?_) fun r H6 ⟨b, vb, Db, hb1, hb2, q11, g6b, hO6, hDb, hC6, hU6, q3, q4, q5, q10⟩ => ?_
  · simp (config := { dsimp := false, maxSteps := 10000000 }) (disch := omega) only [go_sem, reduceIte, Nat.reduceEqDiff, reduceCtorEq, Nat.reduceAdd, Nat.reduceMul, Int.reduceToNat, Int.reduceLE, Int.reduceLT, Int.reduceEq, Int.reduceNe, Nat.reduceLeDiff, Int.reducePow, Nat.reducePow, Nat.reduceLT, Nat.reduceSub, Nat.reduceMod, Nat.reduceDiv, slot_neg, slot_pos, T.ag_3, T.ag_4, T.ag_66, T.ag_71, T.ag_9, T.es_65, T.es_71, T.fo_79_1, T.fo_79_2, T.fo_79_3, T.fo_82_0, T.fo_82_1, T.gf_30, T.gf_31, T.gf_32, T.gf_34, T.gf_35, T.gf_38, T.gf_39, T.gf_9, T.ib_25, T.ib_28, T.ib_3, T.ib_9, T.ii_28, T.ii_3, T.ii_65, T.ii_71, T.ip_25, T.ip_28, T.ip_3, T.ip_9, T.pl_77, T.s8_28, T.s8_3, T.s8_65, T.s8_71, T.sl_28, T.sl_3, T.sl_65, T.sl_71, T.st_28, T.st_3, T.st_65, T.st_71, T.un_28, T.un_3, T.un_65, T.un_71, T.zo_3, T.zo_4, T.zo_66, T.zo_71, T.zo_77, q5, g55]
    refine (AllS_ph H5 p id c 0 hC5 hT.ok).mono fun u H ⟨b, v, Db, s2, k1, k2, k3, k4, k5, k6, k7, k8, k9, k10⟩ => ?_
    subst k1
    simp (config := { dsimp := false, maxSteps := 10000000 }) (disch := omega) only [go_sem, reduceIte, Nat.reduceEqDiff, reduceCtorEq, Nat.reduceAdd, Nat.reduceMul, Int.reduceToNat, Int.reduceLE, Int.reduceLT, Int.reduceEq, Int.reduceNe, Nat.reduceLeDiff, Int.reducePow, Nat.reducePow, Nat.reduceLT, Nat.reduceSub, Nat.reduceMod, Nat.reduceDiv, slot_neg, slot_pos, T.ag_3, T.ag_4, T.ag_66, T.ag_71, T.ag_9, T.es_65, T.es_71, T.fo_79_1, T.fo_79_2, T.fo_79_3, T.fo_82_0, T.fo_82_1, T.gf_30, T.gf_31, T.gf_32, T.gf_34, T.gf_35, T.gf_38, T.gf_39, T.gf_9, T.ib_25, T.ib_28, T.ib_3, T.ib_9, T.ii_28, T.ii_3, T.ii_65, T.ii_71, T.ip_25, T.ip_28, T.ip_3, T.ip_9, T.pl_77, T.s8_28, T.s8_3, T.s8_65, T.s8_71, T.sl_28, T.sl_3, T.sl_65, T.sl_71, T.st_28, T.st_3, T.st_65, T.st_71, T.un_28, T.un_3, T.un_65, T.un_71, T.zo_3, T.zo_4, T.zo_66, T.zo_71, T.zo_77, q3, q4, q5, q10]
    have e : s2 = s := by
      refine List.Perm.eq_of_pairwise (fun a b ha hb h1 h2 => put_inj hOk1.asc (k7.subset ha) (hs1.subset hb) ?_) k8 hs2 (k7.trans hs1.symm)
      unfold leT at h1 h2; omega
    subst e
    exact ⟨b, v, Db, k2, k3, rfl, k4, k5, k6, k9, k10⟩
  have n6 := hU6.1
  have hm6 : p < H4.next ∧ id < H4.next := ⟨hpH, hidH⟩
  have g61 := (hU6.2 h.next (by omega) (by simp; omega)).trans g51
  have g62 := (hU6.2 (h.next + 1) (by omega) (by simp; omega)).trans g52
  have g65 := (hU6.2 q5b (by omega) (by simp; omega)).trans g55
  have g610 := (hU6.2 q10b (by omega) (by simp; omega)).trans g510
  have hO5' : OwnRow refE H6 u5 Ds s := hO5.upd hU6 fun d hd => by have := hDs d hd; simp; omega
  have hDs5 := hO5.lt
  have hDb6 := hO6.lt
  obtain ⟨k, hk1, hk2⟩ := modm x1 12 (by omega)
  -- how many
  refine CodeH.seq (fun r H => H = H6.put h.next (.live (.cells [.int .i64 k] .own)) ∧ r 3 = .pointer (some ⟨h.next, 0, none⟩) ∧ r 4 = .pointer (some ⟨h.next + 1, 0, none⟩) ∧ r 5 = .pointer (some ⟨q5b, 0, none⟩) ∧ r 10 = .pointer (some ⟨q10b, 0, none⟩) ∧ r 11 = .func (.func 68) #[] #[.pointer (some ⟨b, 0, none⟩)]) (CodeH.of_vc [] hm (by kernel_rfl) ?_) fun r H7 ⟨hH7, q3, q4, q5, q10, q11⟩ => ?_
  · simp (config := { dsimp := false, maxSteps := 10000000 }) (disch := omega) only [go_sem, reduceIte, Nat.reduceEqDiff, reduceCtorEq, Nat.reduceAdd, Nat.reduceMul, Int.reduceToNat, Int.reduceLE, Int.reduceLT, Int.reduceEq, Int.reduceNe, Nat.reduceLeDiff, Int.reducePow, Nat.reducePow, Nat.reduceLT, Nat.reduceSub, Nat.reduceMod, Nat.reduceDiv, slot_neg, slot_pos, T.ag_3, T.ag_4, T.ag_66, T.ag_71, T.ag_9, T.es_65, T.es_71, T.fo_79_1, T.fo_79_2, T.fo_79_3, T.fo_82_0, T.fo_82_1, T.gf_30, T.gf_31, T.gf_32, T.gf_34, T.gf_35, T.gf_38, T.gf_39, T.gf_9, T.ib_25, T.ib_28, T.ib_3, T.ib_9, T.ii_28, T.ii_3, T.ii_65, T.ii_71, T.ip_25, T.ip_28, T.ip_3, T.ip_9, T.pl_77, T.s8_28, T.s8_3, T.s8_65, T.s8_71, T.sl_28, T.sl_3, T.sl_65, T.sl_71, T.st_28, T.st_3, T.st_65, T.st_71, T.un_28, T.un_3, T.un_65, T.un_71, T.zo_3, T.zo_4, T.zo_66, T.zo_71, T.zo_77, q3, q4, q5, q10, q11, g61, hk2]
  refine CodeH.seq (fun r H => H.get h.next = .live (.cells [.int .i64 k] .own) ∧ H.get H6.next = .live (.cells [.int .i64 0] .own) ∧ H.next = H6.next + 1 ∧ Upd H6 H [h.next] ∧ r 3 = .pointer (some ⟨h.next, 0, none⟩) ∧ r 4 = .pointer (some ⟨h.next + 1, 0, none⟩) ∧ r 5 = .pointer (some ⟨q5b, 0, none⟩) ∧ r 10 = .pointer (some ⟨q10b, 0, none⟩) ∧ r 11 = .func (.func 68) #[] #[.pointer (some ⟨b, 0, none⟩)] ∧ r 12 = .pointer (some ⟨H6.next, 0, none⟩)) (CodeH.of_vc [] hm (by kernel_rfl) ?_) fun r H8 ⟨g81, g812, hn8, hU8, q3, q4, q5, q10, q11, q12⟩ => ?_
  · subst hH7
    simp (config := { dsimp := false, maxSteps := 10000000 }) (disch := omega) only [go_sem, reduceIte, Nat.reduceEqDiff, reduceCtorEq, Nat.reduceAdd, Nat.reduceMul, Int.reduceToNat, Int.reduceLE, Int.reduceLT, Int.reduceEq, Int.reduceNe, Nat.reduceLeDiff, Int.reducePow, Nat.reducePow, Nat.reduceLT, Nat.reduceSub, Nat.reduceMod, Nat.reduceDiv, slot_neg, slot_pos, T.ag_3, T.ag_4, T.ag_66, T.ag_71, T.ag_9, T.es_65, T.es_71, T.fo_79_1, T.fo_79_2, T.fo_79_3, T.fo_82_0, T.fo_82_1, T.gf_30, T.gf_31, T.gf_32, T.gf_34, T.gf_35, T.gf_38, T.gf_39, T.gf_9, T.ib_25, T.ib_28, T.ib_3, T.ib_9, T.ii_28, T.ii_3, T.ii_65, T.ii_71, T.ip_25, T.ip_28, T.ip_3, T.ip_9, T.pl_77, T.s8_28, T.s8_3, T.s8_65, T.s8_71, T.sl_28, T.sl_3, T.sl_65, T.sl_71, T.st_28, T.st_3, T.st_65, T.st_71, T.un_28, T.un_3, T.un_65, T.un_71, T.zo_3, T.zo_4, T.zo_66, T.zo_71, T.zo_77, q3, q4, q5, q10, q11]
    exact (((Upd.refl _ _).put (.inl (by simp))).allocs).put (.inr (Nat.le_refl _))
  have g82 := (hU8.2 (h.next + 1) (by omega) (by simp)).trans g62
  have g85 := (hU8.2 q5b (by omega) (by simp; omega)).trans g65
  have g810 := (hU8.2 q10b (by omega) (by simp; omega)).trans g610
  have g8b := (hU8.2 b (by omega) (by simp; omega)).trans g6b
  have hO8 := hO5'.upd hU8 fun d hd => by have := hDs d hd; simp; omega
  have hB8 := hO6.upd hU8 fun d hd => by have := hDb d hd; simp; omega
  have hC8 : CaR isStrV H8 p id (timeC c 0) := hC6.upd hU8 (by simp; omega) (by simp; omega)
  have hsl : s.length ≤ 10000 := by rw [hs1.length_eq]; have := hOk1.len; omega
  have hreq : ∀ H, Upd H8 H [H6.next] → b < H.next ∧ ∃ o, H.get b = .live (.cells [vb] o) ∧ RowIn thE H vb s ∧ ∀ A n st, vb = .slice (some A) n st → A.block < H.next := fun H hu => by
    have hn := hu.1
    have hB := hB8.upd hu fun d hd => by have := hDb6 d hd; simp; omega
    refine ⟨by omega, _, (hu.2 b (by omega) (by simp; omega)).trans g8b, hB.row, fun A n st e => ?_⟩
    rcases hB with ⟨e1, _⟩ | ⟨q, off, vs, _, hqn, e1, _⟩
    · rw [e1] at e; cases e
    · rw [e1] at e; cases e; exact hqn
  obtain ⟨F, hF⟩ : ∃ F, F = Value.func (.func 68) #[] #[.pointer (some ⟨b, 0, none⟩)] := ⟨_, rfl⟩
  rw [← hF] at q11
  refine CodeH.seq (fun r H => H.get H6.next = .live (.cells [.int .i64 (min k s.length : Nat)] .own) ∧ Upd H8 H [H6.next] ∧ r 3 = .pointer (some ⟨h.next, 0, none⟩) ∧ r 4 = .pointer (some ⟨h.next + 1, 0, none⟩) ∧ r 5 = .pointer (some ⟨q5b, 0, none⟩) ∧ r 10 = .pointer (some ⟨q10b, 0, none⟩) ∧ r 11 = F ∧ r 12 = .pointer (some ⟨H6.next, 0, none⟩)) ?_ fun r H9 ⟨g912, hU9, q3, q4, q5, q10, q11, q12⟩ => ?_
  · refine CodeH.seq' (CodeH.of_vc [] hm (by kernel_rfl) ?_)
    simp (config := { dsimp := false, maxSteps := 10000000 }) (disch := omega) only [go_sem, reduceIte, Nat.reduceEqDiff, reduceCtorEq, Nat.reduceAdd, Nat.reduceMul, Int.reduceToNat, Int.reduceLE, Int.reduceLT, Int.reduceEq, Int.reduceNe, Nat.reduceLeDiff, Int.reducePow, Nat.reducePow, Nat.reduceLT, Nat.reduceSub, Nat.reduceMod, Nat.reduceDiv, slot_neg, slot_pos, T.ag_3, T.ag_4, T.ag_66, T.ag_71, T.ag_9, T.es_65, T.es_71, T.fo_79_1, T.fo_79_2, T.fo_79_3, T.fo_82_0, T.fo_82_1, T.gf_30, T.gf_31, T.gf_32, T.gf_34, T.gf_35, T.gf_38, T.gf_39, T.gf_9, T.ib_25, T.ib_28, T.ib_3, T.ib_9, T.ii_28, T.ii_3, T.ii_65, T.ii_71, T.ip_25, T.ip_28, T.ip_3, T.ip_9, T.pl_77, T.s8_28, T.s8_3, T.s8_65, T.s8_71, T.sl_28, T.sl_3, T.sl_65, T.sl_71, T.st_28, T.st_3, T.st_65, T.st_71, T.un_28, T.un_3, T.un_65, T.un_71, T.zo_3, T.zo_4, T.zo_66, T.zo_71, T.zo_77, q11]
    refine CodeH.of_vc [] hm (by kernel_rfl) ?_
    simp (config := { dsimp := false, maxSteps := 10000000 }) (disch := omega) only [go_sem, reduceIte, Nat.reduceEqDiff, reduceCtorEq, Nat.reduceAdd, Nat.reduceMul, Int.reduceToNat, Int.reduceLE, Int.reduceLT, Int.reduceEq, Int.reduceNe, Nat.reduceLeDiff, Int.reducePow, Nat.reducePow, Nat.reduceLT, Nat.reduceSub, Nat.reduceMod, Nat.reduceDiv, slot_neg, slot_pos, T.ag_3, T.ag_4, T.ag_66, T.ag_71, T.ag_9, T.es_65, T.es_71, T.fo_79_1, T.fo_79_2, T.fo_79_3, T.fo_82_0, T.fo_82_1, T.gf_30, T.gf_31, T.gf_32, T.gf_34, T.gf_35, T.gf_38, T.gf_39, T.gf_9, T.ib_25, T.ib_28, T.ib_3, T.ib_9, T.ii_28, T.ii_3, T.ii_65, T.ii_71, T.ip_25, T.ip_28, T.ip_3, T.ip_9, T.pl_77, T.s8_28, T.s8_3, T.s8_65, T.s8_71, T.sl_28, T.sl_3, T.sl_65, T.sl_71, T.st_28, T.st_3, T.st_65, T.st_71, T.un_28, T.un_3, T.un_65, T.un_71, T.zo_3, T.zo_4, T.zo_66, T.zo_71, T.zo_77]
    refine RF.gen (fun r => r 3 = .pointer (some ⟨h.next, 0, none⟩) ∧ r 4 = .pointer (some ⟨h.next + 1, 0, none⟩) ∧ r 5 = .pointer (some ⟨q5b, 0, none⟩) ∧ r 10 = .pointer (some ⟨q10b, 0, none⟩) ∧ r 11 = F ∧ r 12 = .pointer (some ⟨H6.next, 0, none⟩) ∧ r 78 = F) ⟨by simp [upd, q3], by simp [upd, q4], by simp [upd, q5], by simp [upd, q10], by simp [upd, q11], by simp [upd, q12], by simp [upd]⟩ fun r ⟨q3, q4, q5, q10, q11, q12, q78⟩ => ?_
    rw [hF] at q78
    refine range_over q78 (by kernel_rfl) (AllSeqS b vb s (by omega)) (fun args ha => ?_) (fun i H => H8.next < H.next ∧ i ≤ k ∧ H.get H6.next = .live (.cells [.int .i64 i] .own) ∧ Upd H8 H [H6.next]) ?_ ?_ ?_ ?_ ?_ ?_
    · obtain ⟨i, _, rfl⟩ := List.mem_map.1 ha; rfl
    · intro H hu1 hn2
      exact ⟨by omega, by omega, (hu1.2 _ (by omega) (by simp)).trans g812, hu1.mono (by simp)⟩
    · rintro i H ⟨_, _, _, hu⟩
      exact hreq H hu
    · rintro i H H' ⟨a0, a1, a2, a3⟩ hu
      exact ⟨Nat.lt_of_lt_of_le a0 hu.1, a1, (hu.2 _ (by omega) (by simp)).trans a2, a3.trans hu (by simp)⟩
    · rintro i H x ⟨a0, a1, a2, a3⟩
      exact ⟨a0, a1, by rw [get_put, if_neg (by omega)]; exact a2, a3.put (.inr (Nat.le_refl _))⟩
    · rintro H x ⟨a0, a1, a2, a3⟩
      rw [List.length_map] at a1 a2
      simp (config := { dsimp := false, maxSteps := 10000000 }) (disch := omega) only [go_sem, reduceIte, Nat.reduceEqDiff, reduceCtorEq, Nat.reduceAdd, Nat.reduceMul, Int.reduceToNat, Int.reduceLE, Int.reduceLT, Int.reduceEq, Int.reduceNe, Nat.reduceLeDiff, Int.reducePow, Nat.reducePow, Nat.reduceLT, Nat.reduceSub, Nat.reduceMod, Nat.reduceDiv, slot_neg, slot_pos, T.ag_3, T.ag_4, T.ag_66, T.ag_71, T.ag_9, T.es_65, T.es_71, T.fo_79_1, T.fo_79_2, T.fo_79_3, T.fo_82_0, T.fo_82_1, T.gf_30, T.gf_31, T.gf_32, T.gf_34, T.gf_35, T.gf_38, T.gf_39, T.gf_9, T.ib_25, T.ib_28, T.ib_3, T.ib_9, T.ii_28, T.ii_3, T.ii_65, T.ii_71, T.ip_25, T.ip_28, T.ip_3, T.ip_9, T.pl_77, T.s8_28, T.s8_3, T.s8_65, T.s8_71, T.sl_28, T.sl_3, T.sl_65, T.sl_71, T.st_28, T.st_3, T.st_65, T.st_71, T.un_28, T.un_3, T.un_65, T.un_71, T.zo_3, T.zo_4, T.zo_66, T.zo_71, T.zo_77]
      refine ⟨by rw [Nat.min_eq_right a1]; exact a2, a3.put (.inr (Nat.le_refl _)), q3, q4, q5, q10, q11, q12⟩
    · rintro n i args H B k1 k2 hx' ⟨a0, a1, a2, a3⟩ hB hlt2
      have hi : i < s.length := by
        have := (List.getElem?_eq_some_iff.1 hx').1; simpa using this
      have hxx : s[i]? = some s[i] := List.getElem?_eq_getElem hi
      rw [List.getElem?_map, hxx] at hx'
      generalize s[i] = y at hx' hxx
      cases hx'
      rw [show ∀ a c : Value, setP r (#[79, 80] : Array Nat).toList (#[a, c] : Array Value).toList = upd (upd r (some 79) a) (some 80) c from fun _ _ => rfl]
      refine CodeH.of_vc [] hm k1 ?_
      simp (config := { dsimp := false, maxSteps := 10000000 }) (disch := omega) only [go_sem, reduceIte, Nat.reduceEqDiff, reduceCtorEq, Nat.reduceAdd, Nat.reduceMul, Int.reduceToNat, Int.reduceLE, Int.reduceLT, Int.reduceEq, Int.reduceNe, Nat.reduceLeDiff, Int.reducePow, Nat.reducePow, Nat.reduceLT, Nat.reduceSub, Nat.reduceMod, Nat.reduceDiv, slot_neg, slot_pos, T.ag_3, T.ag_4, T.ag_66, T.ag_71, T.ag_9, T.es_65, T.es_71, T.fo_79_1, T.fo_79_2, T.fo_79_3, T.fo_82_0, T.fo_82_1, T.gf_30, T.gf_31, T.gf_32, T.gf_34, T.gf_35, T.gf_38, T.gf_39, T.gf_9, T.ib_25, T.ib_28, T.ib_3, T.ib_9, T.ii_28, T.ii_3, T.ii_65, T.ii_71, T.ip_25, T.ip_28, T.ip_3, T.ip_9, T.pl_77, T.s8_28, T.s8_3, T.s8_65, T.s8_71, T.sl_28, T.sl_3, T.sl_65, T.sl_71, T.st_28, T.st_3, T.st_65, T.st_71, T.un_28, T.un_3, T.un_65, T.un_71, T.zo_3, T.zo_4, T.zo_66, T.zo_71, T.zo_77, hB]
      refine fun B' => CodeH.of_vc [] hm k2 ?_
      obtain ⟨Hb, hHb⟩ : ∃ Hb, H.put H8.next B' = Hb := ⟨_, rfl⟩
      rw [hHb]
      have e2 : Hb.get H6.next = .live (.cells [.int .i64 i] .own) := by rw [← hHb, get_put, if_neg (by omega)]; exact a2
      have e3 : Hb.get h.next = .live (.cells [.int .i64 k] .own) := by rw [← hHb, get_put, if_neg (by omega)]; exact (a3.2 _ (by omega) (by simp; omega)).trans g81
      have eB : Hb.get H8.next = B' := by rw [← hHb, get_put, if_pos rfl]
      have e7 : Upd H8 Hb [H6.next] := by rw [← hHb]; exact a3.put (.inr (Nat.le_refl _))
      have e9 : H8.next < Hb.next := by rw [← hHb, next_put]; exact a0
      clear hHb
      by_cases hik : i = k
      · have c1 : ((i : Int) = (k : Int)) = True := eq_true (by omega)
        simp (config := { dsimp := false, maxSteps := 10000000 }) (disch := omega) only [go_sem, reduceIte, Nat.reduceEqDiff, reduceCtorEq, Nat.reduceAdd, Nat.reduceMul, Int.reduceToNat, Int.reduceLE, Int.reduceLT, Int.reduceEq, Int.reduceNe, Nat.reduceLeDiff, Int.reducePow, Nat.reducePow, Nat.reduceLT, Nat.reduceSub, Nat.reduceMod, Nat.reduceDiv, slot_neg, slot_pos, T.ag_3, T.ag_4, T.ag_66, T.ag_71, T.ag_9, T.es_65, T.es_71, T.fo_79_1, T.fo_79_2, T.fo_79_3, T.fo_82_0, T.fo_82_1, T.gf_30, T.gf_31, T.gf_32, T.gf_34, T.gf_35, T.gf_38, T.gf_39, T.gf_9, T.ib_25, T.ib_28, T.ib_3, T.ib_9, T.ii_28, T.ii_3, T.ii_65, T.ii_71, T.ip_25, T.ip_28, T.ip_3, T.ip_9, T.pl_77, T.s8_28, T.s8_3, T.s8_65, T.s8_71, T.sl_28, T.sl_3, T.sl_65, T.sl_71, T.st_28, T.st_3, T.st_65, T.st_71, T.un_28, T.un_3, T.un_65, T.un_71, T.zo_3, T.zo_4, T.zo_66, T.zo_71, T.zo_77, q3, q12, e2, e3, c1]
        refine ⟨eB, fun x => ?_⟩
        exact ⟨by rw [hik, Nat.min_eq_left (by omega)], e7.put (.inr (Nat.le_refl _)), q4, q5, q10, q11⟩
      · have c1 : ((i : Int) = (k : Int)) = False := eq_false (by omega)
        have w1 : IntKind.i64.wrap ((i : Int) + 1) = ((i + 1 : Nat) : Int) := by rw [i64wrap] <;> omega
        simp (config := { dsimp := false, maxSteps := 10000000 }) (disch := omega) only [go_sem, reduceIte, Nat.reduceEqDiff, reduceCtorEq, Nat.reduceAdd, Nat.reduceMul, Int.reduceToNat, Int.reduceLE, Int.reduceLT, Int.reduceEq, Int.reduceNe, Nat.reduceLeDiff, Int.reducePow, Nat.reducePow, Nat.reduceLT, Nat.reduceSub, Nat.reduceMod, Nat.reduceDiv, slot_neg, slot_pos, T.ag_3, T.ag_4, T.ag_66, T.ag_71, T.ag_9, T.es_65, T.es_71, T.fo_79_1, T.fo_79_2, T.fo_79_3, T.fo_82_0, T.fo_82_1, T.gf_30, T.gf_31, T.gf_32, T.gf_34, T.gf_35, T.gf_38, T.gf_39, T.gf_9, T.ib_25, T.ib_28, T.ib_3, T.ib_9, T.ii_28, T.ii_3, T.ii_65, T.ii_71, T.ip_25, T.ip_28, T.ip_3, T.ip_9, T.pl_77, T.s8_28, T.s8_3, T.s8_65, T.s8_71, T.sl_28, T.sl_3, T.sl_65, T.sl_71, T.st_28, T.st_3, T.st_65, T.st_71, T.un_28, T.un_3, T.un_65, T.un_71, T.zo_3, T.zo_4, T.zo_66, T.zo_71, T.zo_77, q3, q12, e2, e3, c1, w1]
        exact ⟨eB, e9, e9, by omega, e7.put (.inl (by simp))⟩
  have n9 := hU9.1
  have g91 := (hU9.2 h.next (by omega) (by simp; omega)).trans g81
  have g910 := (hU9.2 q10b (by omega) (by simp; omega)).trans g810
  have hO9 := hO8.upd hU9 fun d hd => by have := hDs5 d hd; simp; omega
  obtain ⟨Au, stu, hu5⟩ := hO9.form
  have emin : (if (s.length : Int) < (k : Int) then (s.length : Int) else (k : Int)) = ((min k s.length : Nat) : Int) := by
    split <;> omega
  (refine CodeH.seq' (CodeH.of_vc [] hm (by kernel_rfl) ?_); simp (config := { dsimp := false, maxSteps := 10000000 }) (disch := omega) only [go_sem, reduceIte, Nat.reduceEqDiff, reduceCtorEq, Nat.reduceAdd, Nat.reduceMul, Int.reduceToNat, Int.reduceLE, Int.reduceLT, Int.reduceEq, Int.reduceNe, Nat.reduceLeDiff, Int.reducePow, Nat.reducePow, Nat.reduceLT, Nat.reduceSub, Nat.reduceMod, Nat.reduceDiv, slot_neg, slot_pos, T.ag_3, T.ag_4, T.ag_66, T.ag_71, T.ag_9, T.es_65, T.es_71, T.fo_79_1, T.fo_79_2, T.fo_79_3, T.fo_82_0, T.fo_82_1, T.gf_30, T.gf_31, T.gf_32, T.gf_34, T.gf_35, T.gf_38, T.gf_39, T.gf_9, T.ib_25, T.ib_28, T.ib_3, T.ib_9, T.ii_28, T.ii_3, T.ii_65, T.ii_71, T.ip_25, T.ip_28, T.ip_3, T.ip_9, T.pl_77, T.s8_28, T.s8_3, T.s8_65, T.s8_71, T.sl_28, T.sl_3, T.sl_65, T.sl_71, T.st_28, T.st_3, T.st_65, T.st_71, T.un_28, T.un_3, T.un_65, T.un_71, T.zo_3, T.zo_4, T.zo_66, T.zo_71, T.zo_77, init_a, q3, q10, q12, g91, g910, g912, hu5, emin])
  have g92 := (hU9.2 (h.next + 1) (by omega) (by simp; omega)).trans g82
  have g95 := (hU9.2 q5b (by omega) (by simp; omega)).trans g85
  have hC9 : CaR isStrV H9 p id (timeC c 0) := hC8.upd hU9 (by simp; omega) (by simp; omega)
  refine CodeH.seq (fun r H => H.get H9.next = .live (.cells [.int .i64 0] .own) ∧ H.next = H9.next + 1 ∧ Upd H9 H [] ∧ r 4 = .pointer (some ⟨h.next + 1, 0, none⟩) ∧ r 5 = .pointer (some ⟨q5b, 0, none⟩) ∧ r 10 = .pointer (some ⟨q10b, 0, none⟩) ∧ r 11 = F ∧ r 13 = .pointer (some ⟨H9.next, 0, none⟩)) (CodeH.of_vc [] hm (by kernel_rfl) ?_) fun r H10 ⟨g1013, hn10, hU10, q4, q5, q10, q11, q13⟩ => ?_
  · simp (config := { dsimp := false, maxSteps := 10000000 }) (disch := omega) only [go_sem, reduceIte, Nat.reduceEqDiff, reduceCtorEq, Nat.reduceAdd, Nat.reduceMul, Int.reduceToNat, Int.reduceLE, Int.reduceLT, Int.reduceEq, Int.reduceNe, Nat.reduceLeDiff, Int.reducePow, Nat.reducePow, Nat.reduceLT, Nat.reduceSub, Nat.reduceMod, Nat.reduceDiv, slot_neg, slot_pos, T.ag_3, T.ag_4, T.ag_66, T.ag_71, T.ag_9, T.es_65, T.es_71, T.fo_79_1, T.fo_79_2, T.fo_79_3, T.fo_82_0, T.fo_82_1, T.gf_30, T.gf_31, T.gf_32, T.gf_34, T.gf_35, T.gf_38, T.gf_39, T.gf_9, T.ib_25, T.ib_28, T.ib_3, T.ib_9, T.ii_28, T.ii_3, T.ii_65, T.ii_71, T.ip_25, T.ip_28, T.ip_3, T.ip_9, T.pl_77, T.s8_28, T.s8_3, T.s8_65, T.s8_71, T.sl_28, T.sl_3, T.sl_65, T.sl_71, T.st_28, T.st_3, T.st_65, T.st_71, T.un_28, T.un_3, T.un_65, T.un_71, T.zo_3, T.zo_4, T.zo_66, T.zo_71, T.zo_77, q4, q5, q10, q11]
    exact ((Upd.alloc _ _ _)).put (.inr (Nat.le_refl _))
  have g102 := (hU10.2 (h.next + 1) (by omega) (by simp)).trans g92
  have g105 := (hU10.2 q5b (by omega) (by simp)).trans g95
  have g1010 := (hU10.2 q10b (by omega) (by simp)).trans g910
  have hO10 := hO9.upd hU10 (by simp)
  have hC10 := hC9.upd hU10 (by simp) (by simp)
  have hU810 : Upd H8 H10 [H6.next] := hU9.trans hU10 (by simp)
  have hpl8 := hC8.lt
  have hil8 := hC8.map.elim fun cl hM => hM.lt
  -- one by one they go
  refine CodeH.seq (fun r H => H.get H9.next = .live (.cells [.int .i64 s.length] .own) ∧ (∃ c', CaR isStrV H p id c' ∧ c'.l = []) ∧ Upd H10 H [H9.next, p, id] ∧ r 4 = .pointer (some ⟨h.next + 1, 0, none⟩) ∧ r 5 = .pointer (some ⟨q5b, 0, none⟩) ∧ r 10 = .pointer (some ⟨q10b, 0, none⟩) ∧ r 13 = .pointer (some ⟨H9.next, 0, none⟩)) ?_ fun r H11 ⟨g1113, ⟨c', hC11, hc'⟩, hU11, q4, q5, q10, q13⟩ => ?_
  · refine CodeH.seq' (CodeH.of_vc [] hm (by kernel_rfl) ?_)
    simp (config := { dsimp := false, maxSteps := 10000000 }) (disch := omega) only [go_sem, reduceIte, Nat.reduceEqDiff, reduceCtorEq, Nat.reduceAdd, Nat.reduceMul, Int.reduceToNat, Int.reduceLE, Int.reduceLT, Int.reduceEq, Int.reduceNe, Nat.reduceLeDiff, Int.reducePow, Nat.reducePow, Nat.reduceLT, Nat.reduceSub, Nat.reduceMod, Nat.reduceDiv, slot_neg, slot_pos, T.ag_3, T.ag_4, T.ag_66, T.ag_71, T.ag_9, T.es_65, T.es_71, T.fo_79_1, T.fo_79_2, T.fo_79_3, T.fo_82_0, T.fo_82_1, T.gf_30, T.gf_31, T.gf_32, T.gf_34, T.gf_35, T.gf_38, T.gf_39, T.gf_9, T.ib_25, T.ib_28, T.ib_3, T.ib_9, T.ii_28, T.ii_3, T.ii_65, T.ii_71, T.ip_25, T.ip_28, T.ip_3, T.ip_9, T.pl_77, T.s8_28, T.s8_3, T.s8_65, T.s8_71, T.sl_28, T.sl_3, T.sl_65, T.sl_71, T.st_28, T.st_3, T.st_65, T.st_71, T.un_28, T.un_3, T.un_65, T.un_71, T.zo_3, T.zo_4, T.zo_66, T.zo_71, T.zo_77, q11]
    refine CodeH.of_vc [] hm (by kernel_rfl) ?_
    simp (config := { dsimp := false, maxSteps := 10000000 }) (disch := omega) only [go_sem, reduceIte, Nat.reduceEqDiff, reduceCtorEq, Nat.reduceAdd, Nat.reduceMul, Int.reduceToNat, Int.reduceLE, Int.reduceLT, Int.reduceEq, Int.reduceNe, Nat.reduceLeDiff, Int.reducePow, Nat.reducePow, Nat.reduceLT, Nat.reduceSub, Nat.reduceMod, Nat.reduceDiv, slot_neg, slot_pos, T.ag_3, T.ag_4, T.ag_66, T.ag_71, T.ag_9, T.es_65, T.es_71, T.fo_79_1, T.fo_79_2, T.fo_79_3, T.fo_82_0, T.fo_82_1, T.gf_30, T.gf_31, T.gf_32, T.gf_34, T.gf_35, T.gf_38, T.gf_39, T.gf_9, T.ib_25, T.ib_28, T.ib_3, T.ib_9, T.ii_28, T.ii_3, T.ii_65, T.ii_71, T.ip_25, T.ip_28, T.ip_3, T.ip_9, T.pl_77, T.s8_28, T.s8_3, T.s8_65, T.s8_71, T.sl_28, T.sl_3, T.sl_65, T.sl_71, T.st_28, T.st_3, T.st_65, T.st_71, T.un_28, T.un_3, T.un_65, T.un_71, T.zo_3, T.zo_4, T.zo_66, T.zo_71, T.zo_77]
    refine RF.gen (fun r => r 4 = .pointer (some ⟨h.next + 1, 0, none⟩) ∧ r 5 = .pointer (some ⟨q5b, 0, none⟩) ∧ r 10 = .pointer (some ⟨q10b, 0, none⟩) ∧ r 13 = .pointer (some ⟨H9.next, 0, none⟩) ∧ r 92 = F) ⟨by simp [upd, q4], by simp [upd, q5], by simp [upd, q10], by simp [upd, q13], by simp [upd]⟩ fun r ⟨q4, q5, q10, q13, q92⟩ => ?_
    rw [hF] at q92
    have hX : ∀ (H H' : Heap) (Fs : List Nat), Upd H10 H [H9.next, p, id] → Upd H H' Fs → (∀ d ∈ Fs, d = H9.next ∨ d = p ∨ d = id ∨ H10.next ≤ d) → Upd H10 H' [H9.next, p, id] := fun H H' Fs h1 h2 h3 => h1.trans h2 fun d hd => by
      rcases h3 d hd with e | e | e | e
      · exact .inl (by simp [e])
      · exact .inl (by simp [e])
      · exact .inl (by simp [e])
      · exact .inr e
    have hreq2 : ∀ H, Upd H10 H [H9.next, p, id] → b < H.next ∧ ∃ o, H.get b = .live (.cells [vb] o) ∧ RowIn thE H vb s ∧ ∀ A n st, vb = .slice (some A) n st → A.block < H.next := fun H hu => by
      have hn := hu.1
      have hB := (hB8.upd hU810 fun d hd => by have := hDb6 d hd; simp; omega).upd hu fun d hd => by have h1 := hDb d hd; have h2 := hDb6 d hd; simp; omega
      refine ⟨by omega, _, (hu.2 b (by omega) (by simp; omega)).trans ((hU810.2 b (by omega) (by simp; omega)).trans g8b), hB.row, fun A n st e => ?_⟩
      rcases hB with ⟨e1, _⟩ | ⟨q, off, vs, _, hqn, e1, _⟩
      · rw [e1] at e; cases e
      · rw [e1] at e; cases e; exact hqn
    refine range_over q92 (by kernel_rfl) (AllSeqS b vb s (by omega)) (fun args ha => ?_) (fun i H => H10.next < H.next ∧ (∃ c', CaR isStrV H p id c' ∧ (∀ x ∈ c'.l, x ∈ (timeC c 0).l) ∧ ∀ x ∈ c'.l, ∀ (j : Nat) (y : Th), j < i → s[j]? = some y → x.key ≠ y.key) ∧ H.get H9.next = .live (.cells [.int .i64 i] .own) ∧ Upd H10 H [H9.next, p, id]) ?_ ?_ ?_ ?_ ?_ ?_
    · obtain ⟨i, _, rfl⟩ := List.mem_map.1 ha; rfl
    · intro H hu1 hn2
      exact ⟨by omega, ⟨_, hC10.upd hu1 (by simp) (by simp), fun x hx => hx, by omega⟩, (hu1.2 _ (by omega) (by simp)).trans g1013, hu1.mono (by simp)⟩
    · rintro i H ⟨_, _, _, hu⟩
      exact hreq2 H hu
    · rintro i H H' ⟨a0, ⟨c', b1, b2, b3⟩, a2, a3⟩ hu
      exact ⟨Nat.lt_of_lt_of_le a0 hu.1, ⟨c', b1.upd hu (by simp) (by simp), b2, b3⟩, (hu.2 _ (by omega) (by simp)).trans a2, a3.trans hu (by simp)⟩
    · rintro i H x ⟨a0, ⟨c', b1, b2, b3⟩, a2, a3⟩
      exact ⟨a0, ⟨c', b1.upd (F := [H10.next]) ((Upd.refl _ _).put (.inl (by simp))) (by simp; omega) (by simp; omega), b2, b3⟩, by rw [get_put, if_neg (by omega)]; exact a2, a3.put (.inr (Nat.le_refl _))⟩
    · rintro H x ⟨a0, ⟨c', b1, b2, b3⟩, a2, a3⟩
      rw [List.length_map] at a2 b3
      simp (config := { dsimp := false, maxSteps := 10000000 }) (disch := omega) only [go_sem, reduceIte, Nat.reduceEqDiff, reduceCtorEq, Nat.reduceAdd, Nat.reduceMul, Int.reduceToNat, Int.reduceLE, Int.reduceLT, Int.reduceEq, Int.reduceNe, Nat.reduceLeDiff, Int.reducePow, Nat.reducePow, Nat.reduceLT, Nat.reduceSub, Nat.reduceMod, Nat.reduceDiv, slot_neg, slot_pos, T.ag_3, T.ag_4, T.ag_66, T.ag_71, T.ag_9, T.es_65, T.es_71, T.fo_79_1, T.fo_79_2, T.fo_79_3, T.fo_82_0, T.fo_82_1, T.gf_30, T.gf_31, T.gf_32, T.gf_34, T.gf_35, T.gf_38, T.gf_39, T.gf_9, T.ib_25, T.ib_28, T.ib_3, T.ib_9, T.ii_28, T.ii_3, T.ii_65, T.ii_71, T.ip_25, T.ip_28, T.ip_3, T.ip_9, T.pl_77, T.s8_28, T.s8_3, T.s8_65, T.s8_71, T.sl_28, T.sl_3, T.sl_65, T.sl_71, T.st_28, T.st_3, T.st_65, T.st_71, T.un_28, T.un_3, T.un_65, T.un_71, T.zo_3, T.zo_4, T.zo_66, T.zo_71, T.zo_77]
      refine ⟨a2, ⟨c', b1.upd (F := [H10.next]) ((Upd.refl _ _).put (.inl (by simp))) (by simp; omega) (by simp; omega), ?_⟩, a3.put (.inr (Nat.le_refl _)), q4, q5, q10, q13⟩
      refine List.eq_nil_iff_forall_not_mem.2 fun x hx => ?_
      obtain ⟨j, hj⟩ := List.getElem?_of_mem (hs1.symm.subset (b2 x hx))
      exact b3 x hx j x (List.getElem?_eq_some_iff.1 hj).1 hj rfl
    · rintro n i args H B k1 k2 hx' ⟨a0, ⟨c', b1, b2, b3⟩, a2, a3⟩ hB hlt2
      have hi : i < s.length := by
        have := (List.getElem?_eq_some_iff.1 hx').1; simpa using this
      have hxx : s[i]? = some s[i] := List.getElem?_eq_getElem hi
      rw [List.getElem?_map, hxx] at hx'
      have hsm : s[i] ∈ s := List.getElem_mem _
      obtain ⟨sk, hsk⟩ := (hT.str.time 0) s[i] (hs1.subset hsm)
      obtain ⟨ls, rfl⟩ := str_ex sk
      obtain ⟨nv, hnv⟩ := (hT.int.time 0) s[i] (hs1.subset hsm)
      generalize s[i] = y at hx' hxx hsm hsk hnv
      cases hx'
      rw [show ∀ a c : Value, setP r (#[93, 94] : Array Nat).toList (#[a, c] : Array Value).toList = upd (upd r (some 93) a) (some 94) c from fun _ _ => rfl]
      refine CodeH.of_vc [] hm k1 ?_
      simp (config := { dsimp := false, maxSteps := 10000000 }) (disch := omega) only [go_sem, reduceIte, Nat.reduceEqDiff, reduceCtorEq, Nat.reduceAdd, Nat.reduceMul, Int.reduceToNat, Int.reduceLE, Int.reduceLT, Int.reduceEq, Int.reduceNe, Nat.reduceLeDiff, Int.reducePow, Nat.reducePow, Nat.reduceLT, Nat.reduceSub, Nat.reduceMod, Nat.reduceDiv, slot_neg, slot_pos, T.ag_3, T.ag_4, T.ag_66, T.ag_71, T.ag_9, T.es_65, T.es_71, T.fo_79_1, T.fo_79_2, T.fo_79_3, T.fo_82_0, T.fo_82_1, T.gf_30, T.gf_31, T.gf_32, T.gf_34, T.gf_35, T.gf_38, T.gf_39, T.gf_9, T.ib_25, T.ib_28, T.ib_3, T.ib_9, T.ii_28, T.ii_3, T.ii_65, T.ii_71, T.ip_25, T.ip_28, T.ip_3, T.ip_9, T.pl_77, T.s8_28, T.s8_3, T.s8_65, T.s8_71, T.sl_28, T.sl_3, T.sl_65, T.sl_71, T.st_28, T.st_3, T.st_65, T.st_71, T.un_28, T.un_3, T.un_65, T.un_71, T.zo_3, T.zo_4, T.zo_66, T.zo_71, T.zo_77, hB]
      refine fun B' => CodeH.of_vc [] hm k2 ?_
      obtain ⟨Hb, hHb⟩ : ∃ Hb, H.put H10.next B' = Hb := ⟨_, rfl⟩
      rw [hHb]
      have eB : Hb.get H10.next = B' := by rw [← hHb, get_put, if_pos rfl]
      have e7 : Upd H10 Hb [H9.next, p, id] := by rw [← hHb]; exact a3.put (.inr (Nat.le_refl _))
      have e9 : H10.next < Hb.next := by rw [← hHb, next_put]; exact a0
      have e13 : Hb.get H9.next = .live (.cells [.int .i64 i] .own) := by rw [← hHb, get_put, if_neg (by omega)]; exact a2
      have e10 : Hb.get q10b = .live (.cells [u5] .own) := (e7.2 _ (by omega) (by simp; omega)).trans g1010
      have e5 : Hb.get q5b = .live (.cells [.pointer (some ⟨p, 0, none⟩)] .own) := (e7.2 _ (by omega) (by simp; omega)).trans g105
      have eC : CaR isStrV Hb p id c' := by rw [← hHb]; exact b1.upd (F := [H10.next]) ((Upd.refl _ _).put (.inl (by simp))) (by simp; omega) (by simp; omega)
      have eO := hO10.upd e7 fun d hd => by have h1 := hDs d hd; have h2 := hDs5 d hd; simp; omega
      clear hHb
      obtain ⟨qa, oa, va, wa, ea, ga, _, _, ka, xa, _⟩ := row_th eO.row hxx
      rw [hsk] at ka
      rw [hnv] at xa
      rw [ea] at e10
      have c1 : ((i : Int) ≥ (s.length : Int)) = False := eq_false (by omega)
      have c2 : ((i : Int) < (s.length : Int)) = True := eq_true (by omega)
      have c3 : ((s.length : Int) ≤ (i : Int)) = False := eq_false (by omega)
      simp (config := { dsimp := false, maxSteps := 10000000 }) (disch := omega) only [go_sem, reduceIte, Nat.reduceEqDiff, reduceCtorEq, Nat.reduceAdd, Nat.reduceMul, Int.reduceToNat, Int.reduceLE, Int.reduceLT, Int.reduceEq, Int.reduceNe, Nat.reduceLeDiff, Int.reducePow, Nat.reducePow, Nat.reduceLT, Nat.reduceSub, Nat.reduceMod, Nat.reduceDiv, slot_neg, slot_pos, T.ag_3, T.ag_4, T.ag_66, T.ag_71, T.ag_9, T.es_65, T.es_71, T.fo_79_1, T.fo_79_2, T.fo_79_3, T.fo_82_0, T.fo_82_1, T.gf_30, T.gf_31, T.gf_32, T.gf_34, T.gf_35, T.gf_38, T.gf_39, T.gf_9, T.ib_25, T.ib_28, T.ib_3, T.ib_9, T.ii_28, T.ii_3, T.ii_65, T.ii_71, T.ip_25, T.ip_28, T.ip_3, T.ip_9, T.pl_77, T.s8_28, T.s8_3, T.s8_65, T.s8_71, T.sl_28, T.sl_3, T.sl_65, T.sl_71, T.st_28, T.st_3, T.st_65, T.st_71, T.un_28, T.un_3, T.un_65, T.un_71, T.zo_3, T.zo_4, T.zo_66, T.zo_71, T.zo_77, q4, q5, q10, q13, e13, e10, e5, ga, ka, xa, hsk, hnv, c1, c2, c3, list_str]
      refine (DropS_ph Hb p id c' 0 (.string (str ls)) ⟨_, rfl⟩ eC).mono fun u H2 ⟨d1, d2, _⟩ => ?_
      have d3 := d2.1
      have eB2 := (d2.2 H10.next (by omega) (by simp; omega)).trans eB
      have e132 := (d2.2 H9.next (by omega) (by simp; omega)).trans e13
      have w1 : IntKind.i64.wrap ((i : Int) + 1) = ((i + 1 : Nat) : Int) := by rw [i64wrap] <;> omega
      simp (config := { dsimp := false, maxSteps := 10000000 }) (disch := omega) only [go_sem, reduceIte, Nat.reduceEqDiff, reduceCtorEq, Nat.reduceAdd, Nat.reduceMul, Int.reduceToNat, Int.reduceLE, Int.reduceLT, Int.reduceEq, Int.reduceNe, Nat.reduceLeDiff, Int.reducePow, Nat.reducePow, Nat.reduceLT, Nat.reduceSub, Nat.reduceMod, Nat.reduceDiv, slot_neg, slot_pos, T.ag_3, T.ag_4, T.ag_66, T.ag_71, T.ag_9, T.es_65, T.es_71, T.fo_79_1, T.fo_79_2, T.fo_79_3, T.fo_82_0, T.fo_82_1, T.gf_30, T.gf_31, T.gf_32, T.gf_34, T.gf_35, T.gf_38, T.gf_39, T.gf_9, T.ib_25, T.ib_28, T.ib_3, T.ib_9, T.ii_28, T.ii_3, T.ii_65, T.ii_71, T.ip_25, T.ip_28, T.ip_3, T.ip_9, T.pl_77, T.s8_28, T.s8_3, T.s8_65, T.s8_71, T.sl_28, T.sl_3, T.sl_65, T.sl_71, T.st_28, T.st_3, T.st_65, T.st_71, T.un_28, T.un_3, T.un_65, T.un_71, T.zo_3, T.zo_4, T.zo_66, T.zo_71, T.zo_77, q13, e132, w1]
      have hw : ∀ x ∈ (without (timeC c' 0) (.string (str ls))).l, x ∈ c'.l ∧ x.key ≠ .string (str ls) := fun x hx => by
        obtain ⟨h1, h2⟩ := List.mem_filter.1 hx
        refine ⟨(List.mem_filter.1 h1).1, fun e => ?_⟩
        rw [e, keq_yes kind_str ⟨_, rfl⟩] at h2; cases h2
      refine ⟨eB2, by omega, by omega, ⟨_, d1.upd (F := [H9.next]) ((Upd.refl _ _).put (.inl (by simp))) (by simp; omega) (by simp; omega), fun x hx => b2 x (hw x hx).1, fun x hx j z hj hz => ?_⟩, (hX _ _ _ e7 d2 (by simp)).put (.inl (by simp))⟩
      rcases Nat.lt_or_ge j i with h5 | h5
      · exact b3 x (hw x hx).1 j z h5 hz
      · obtain rfl : j = i := by omega
        rw [hxx] at hz; cases hz
        rw [hsk]; exact (hw x hx).2
  have n11 := hU11.1
  have g112 := (hU11.2 (h.next + 1) (by omega) (by simp; omega)).trans g102
  have g115 := (hU11.2 q5b (by omega) (by simp; omega)).trans g105
  have g1110 := (hU11.2 q10b (by omega) (by simp; omega)).trans g1010
  have ez : (timeC c' 0).l = [] := by unfold timeC; simp only; rw [hc']; rfl
  (refine CodeH.of_vc [] hm (by kernel_rfl) ?_; simp (config := { dsimp := false, maxSteps := 10000000 }) (disch := omega) only [go_sem, reduceIte, Nat.reduceEqDiff, reduceCtorEq, Nat.reduceAdd, Nat.reduceMul, Int.reduceToNat, Int.reduceLE, Int.reduceLT, Int.reduceEq, Int.reduceNe, Nat.reduceLeDiff, Int.reducePow, Nat.reducePow, Nat.reduceLT, Nat.reduceSub, Nat.reduceMod, Nat.reduceDiv, slot_neg, slot_pos, T.ag_3, T.ag_4, T.ag_66, T.ag_71, T.ag_9, T.es_65, T.es_71, T.fo_79_1, T.fo_79_2, T.fo_79_3, T.fo_82_0, T.fo_82_1, T.gf_30, T.gf_31, T.gf_32, T.gf_34, T.gf_35, T.gf_38, T.gf_39, T.gf_9, T.ib_25, T.ib_28, T.ib_3, T.ib_9, T.ii_28, T.ii_3, T.ii_65, T.ii_71, T.ip_25, T.ip_28, T.ip_3, T.ip_9, T.pl_77, T.s8_28, T.s8_3, T.s8_65, T.s8_71, T.sl_28, T.sl_3, T.sl_65, T.sl_71, T.st_28, T.st_3, T.st_65, T.st_71, T.un_28, T.un_3, T.un_65, T.un_71, T.zo_3, T.zo_4, T.zo_66, T.zo_71, T.zo_77, init_a, q4, q5, q10, q13, g1113, g1110, hu5, g115, g112])
  refine (CountS_ph H11 p id c' 0 hC11 (by rw [hc']; simp)).mono fun u H12 ⟨k1, k2, k3⟩ => ?_
  subst k1
  have g122 := (k3.2 (h.next + 1) (by omega) (by simp; omega)).trans g112
  rw [ez]
  simp (config := { dsimp := false, maxSteps := 10000000 }) (disch := omega) only [go_sem, reduceIte, Nat.reduceEqDiff, reduceCtorEq, Nat.reduceAdd, Nat.reduceMul, Int.reduceToNat, Int.reduceLE, Int.reduceLT, Int.reduceEq, Int.reduceNe, Nat.reduceLeDiff, Int.reducePow, Nat.reducePow, Nat.reduceLT, Nat.reduceSub, Nat.reduceMod, Nat.reduceDiv, slot_neg, slot_pos, T.ag_3, T.ag_4, T.ag_66, T.ag_71, T.ag_9, T.es_65, T.es_71, T.fo_79_1, T.fo_79_2, T.fo_79_3, T.fo_82_0, T.fo_82_1, T.gf_30, T.gf_31, T.gf_32, T.gf_34, T.gf_35, T.gf_38, T.gf_39, T.gf_9, T.ib_25, T.ib_28, T.ib_3, T.ib_9, T.ii_28, T.ii_3, T.ii_65, T.ii_71, T.ip_25, T.ip_28, T.ip_3, T.ip_9, T.pl_77, T.s8_28, T.s8_3, T.s8_65, T.s8_71, T.sl_28, T.sl_3, T.sl_65, T.sl_71, T.st_28, T.st_3, T.st_65, T.st_71, T.un_28, T.un_3, T.un_65, T.un_71, T.zo_3, T.zo_4, T.zo_66, T.zo_71, T.zo_77, g122, q4]
end Ph
