import Derived.Test.YtlpbikgdffbplaaDoorE12
set_option maxRecDepth 100000
set_option maxHeartbeats 4000000
set_option linter.unusedSimpArgs false
set_option linter.unusedVariables false
namespace Ph
open Go Go.Proofs
attribute [local irreducible] Value.cells
attribute [local go_sem ↓] y_move y_assign y_pick y_nil y_bin y_un y_fa y_field y_ext y_ia y_ix y_slice y_build y_mf y_rg y_nx y_en y_mm y_lk y_mu y_del y_load y_len y_cap y_min y_max y_conv y_bs y_mk y_alloc y_box y_store y_clear y_app y_callf y_callt s_move s_assign s_pick s_nil s_bin s_un s_fa s_field s_ext s_ia s_ix s_slice s_conv s_build s_bs s_mf s_alloc s_box s_rg s_nx s_en s_mm s_lk s_mu s_del s_load s_store s_len s_clear s_cap s_min s_max s_app s_call q_call q_move q_assign q_pick q_nil q_bin q_un q_fa q_field q_ext q_ia q_ix q_slice q_conv q_build q_mf q_lk q_load q_len q_cap q_min q_max l_nil l_move l_assign l_pick l_nilc l_bin l_un l_fa l_field l_ext l_ia l_ix l_slice l_conv l_build l_mf l_lk l_load l_len l_cap l_min l_max l_call put_eq putN_eq o_nil o_plain o_gate v_nil v_plain v_gate vc_skip vc_region vc_seq vc_cond vc_block vc_loop vc_rf vc_exit vc_ret blk_normal blk_ret blk_exit on_normal on_ret on_exit vc_drawn draw_q s_mk l_bs l_mk l_rg l_nx l_en l_mm l_mu l_del l_alloc l_box l_store l_app l_clear pl_done pl_takeS pl_take pl_alt pl_stop one_plain one_gate
attribute [local go_sem] clear_nil clear_sl onAgg_a onTuple_t onFn_f onFn_y onFunc_f c_int c_nil c_sl c_str sl_sl sl_nil sl_str ix_str ix_agg n_nil n_sl n_str app_eq k_nil k_sl cap_n len_sl len_str len_mn len_m onMap_m onIter_i rg_n rg_m nx_p en_p lk_n lk_m up_m setM_n setM_s del_n del_m kt_s kt_i upd_some upd_none ev_tmp ev_const ev_func rd_some gdst_eq otmp_t otmp_c get_put get_alloc next_put next_alloc get_app next_app init_a resV1 resV2 onPtr_ptr onBool_b onInt_i onSlice_s onSome_s onCells_c lett_eq gate_tt gate_tf gate_ff gate_ft gate_dt gate_df also_eq bin un minmax io_none io_some bo_none bo_some partOf List.getElem?_cons_zero List.getElem?_cons_succ List.getElem?_toArray Option.map_some Option.map_none Option.bind_some ne_eq not_true_eq_false not_false_eq_true false_implies true_implies and_true true_and and_self Bool.false_eq_true Nat.zero_add Nat.add_zero List.size_toArray List.length_cons List.length_nil List.map_toArray List.map_cons List.map_nil Array.getD_eq_getD_getElem? Option.getD_some Bool.not_true Bool.not_false Bool.not_eq_true Option.isNone_some Option.isNone_none List.append_toArray List.append_nil List.nil_append List.cons_append decide_true decide_false in_nil in_cons Bool.and_false Bool.and_true Bool.or_false Bool.true_or Bool.false_or get_mask next_mask get_unmask next_unmask ac_move ac_assign ac_pick ac_nil ac_bin ac_un ac_fa ac_field ac_ext ac_ia ac_ix ac_slice ac_build ac_mf ac_call ac_len ac_lk ac_cap ac_min ac_max accM_m accM_n accM_s accM_t ac_load ac_conv accP_p accS_s accS_n accS_i accS_t fixed_ro fixed_lock fixed_own get_ro next_ro lock_live' lock_cells List.mem_cons List.not_mem_nil or_false false_or or_true true_or and_false false_and IntKind.bits Int.natCast_zero Int.natCast_one size_str data_str list_str mk_str ext_str app_str bytes_str w_byte w_byteu Int.toNat_natCast Int.toNat_zero Int.toNat_one Nat.sub_zero ge_iff_le gt_iff_lt Nat.le_refl Int.le_refl List.drop_zero Int.ofNat_eq_natCast Int.natCast_nonneg Int.sub_zero oc_int oc_bool oc_str oc_ptr oc_sl oc_map oc_func List.set_cons_zero List.set_cons_succ Nat.mul_one List.all_cons List.all_nil Bool.and_self res_nil res_tmp res_cell tup_one tup_two tup_nil fill_nil repl_zero cells_agg List.append_eq List.toList_toArray Nat.zero_mul Nat.one_mul repl_one repl_two onSome_build fill_cons onSome_lit splice_eq cells_int cells_bool cells_str cells_ptr cells_sl cells_map cells_func loadK_n loadK_s load_k storeK_n storeK_s store_k all_arr List.take_zero List.take_succ_cons List.drop_succ_cons List.take_nil List.drop_nil lk_own lk_ro lk_lock lk_lk fixed_lk gate_nt gate_nf gate3_b gate3_u undef Bool.true_and Bool.false_and nx_l nx_r nx_lt put_put resV0
attribute [local go_sem] str_inj size_str
/-! NameShort: the law. -/
theorem nameShort_ph (h : Heap) (l0 : (List (List UInt8))) (s0 : Value) (hs0 : SlR Rd.str h s0 l0) (l1 : (List Int)) (s1 : Value) (hs1 : SlR (Rd.int .u8) h s1 l1) (wf0 : (l0.length ≤ maxLen ∧ ∀ x ∈ l0, x.length ≤ maxLen)) (wf1 : (l1.length ≤ maxLen ∧ ∀ x ∈ l1, (Lit.int .u8 x).wf = true)) (hb : ((l0.map fun x => (x.length + 1)).sum + 1) + ((l1.map fun x => 1).sum + 1) ≤ 1048576) :
    @CallsH Tryd.prog 3 #[s0, s1] h ⟨fun u _ => u = .bool true⟩ := by
  rw [ones] at hb
  obtain ⟨le, hr0, hlen0, hT0, hlt0⟩ := slr_row Rd.str tE rfl (by decide) (fun x e => e = x) (fun x vs hx => ⟨x, hx, rfl⟩) hs0
  obtain rfl := ext_all hlen0 hT0
  obtain ⟨B, hBl, hr1, hlt1⟩ := u8_row hs1 wf1.2
  have hstr : ∀ x ∈ le, x.length ≤ 1048576 := fun x hx => by have := mem_len hx; omega
  have hcnt : le.length ≤ 1048576 := by
    have : ∀ m : List (List UInt8), m.length ≤ (m.map fun x => x.length + 1).sum := fun m => by
      induction m with
      | nil => simp
      | cons y m ih => rw [List.map_cons, List.sum_cons, List.length_cons]; omega
    have := this le
    omega
  have hBm : B.length ≤ 1048576 := by omega
  clear hs0 hs1 wf0 wf1 hT0 hlen0 hb hBl
  (refine calls_of_codeR (rs := [.tmp 4]) Tryd.func3 rfl rfl (by simp) ?_)
  (refine CodeH.seq' (CodeH.of_vc [] hm (by kernel_rfl) ?_); simp (config := { dsimp := false, maxSteps := 10000000 }) (disch := omega) only [go_sem, reduceIte, Nat.reduceEqDiff, reduceCtorEq, Nat.reduceAdd, Nat.reduceMul, Int.reduceToNat, Int.reduceLE, Int.reduceLT, Int.reduceEq, Int.reduceNe, Nat.reduceLeDiff, Int.reducePow, Nat.reducePow, Nat.reduceLT, Nat.reduceSub, Nat.reduceMod, Nat.reduceDiv, slot_neg, slot_pos, T.ag_3, T.ag_9, T.eb_22, T.eb_23, T.eb_34, T.es_22, T.es_34, T.ez_22, T.ez_23, T.ez_34, T.gf_4, T.gf_5, T.gf_6, T.gf_7, T.gf_8, T.gf_9, T.ib_24, T.ib_3, T.ib_9, T.ii_22, T.ii_23, T.ii_34, T.ii_9, T.ip_24, T.ip_3, T.ip_9, T.pl_32, T.s8_22, T.s8_23, T.s8_34, T.s8_9, T.sl_22, T.sl_23, T.sl_34, T.sl_9, T.st_22, T.st_23, T.st_34, T.st_9, T.un_22, T.un_23, T.un_34, T.un_9, T.zo_32, init_a])
  (refine CodeH.seq' (CodeH.of_vc [] hm (by kernel_rfl) ?_); simp (config := { dsimp := false, maxSteps := 10000000 }) (disch := omega) only [go_sem, reduceIte, Nat.reduceEqDiff, reduceCtorEq, Nat.reduceAdd, Nat.reduceMul, Int.reduceToNat, Int.reduceLE, Int.reduceLT, Int.reduceEq, Int.reduceNe, Nat.reduceLeDiff, Int.reducePow, Nat.reducePow, Nat.reduceLT, Nat.reduceSub, Nat.reduceMod, Nat.reduceDiv, slot_neg, slot_pos, T.ag_3, T.ag_9, T.eb_22, T.eb_23, T.eb_34, T.es_22, T.es_34, T.ez_22, T.ez_23, T.ez_34, T.gf_4, T.gf_5, T.gf_6, T.gf_7, T.gf_8, T.gf_9, T.ib_24, T.ib_3, T.ib_9, T.ii_22, T.ii_23, T.ii_34, T.ii_9, T.ip_24, T.ip_3, T.ip_9, T.pl_32, T.s8_22, T.s8_23, T.s8_34, T.s8_9, T.sl_22, T.sl_23, T.sl_34, T.sl_9, T.st_22, T.st_23, T.st_34, T.st_9, T.un_22, T.un_23, T.un_34, T.un_9, T.zo_32, init_a])
  refine (none_ph h).mono fun u H ⟨hu, hH⟩ => ?_
  subst hu hH
  simp (config := { dsimp := false, maxSteps := 10000000 }) (disch := omega) only [go_sem, reduceIte, Nat.reduceEqDiff, reduceCtorEq, Nat.reduceAdd, Nat.reduceMul, Int.reduceToNat, Int.reduceLE, Int.reduceLT, Int.reduceEq, Int.reduceNe, Nat.reduceLeDiff, Int.reducePow, Nat.reducePow, Nat.reduceLT, Nat.reduceSub, Nat.reduceMod, Nat.reduceDiv, slot_neg, slot_pos, T.ag_3, T.ag_9, T.eb_22, T.eb_23, T.eb_34, T.es_22, T.es_34, T.ez_22, T.ez_23, T.ez_34, T.gf_4, T.gf_5, T.gf_6, T.gf_7, T.gf_8, T.gf_9, T.ib_24, T.ib_3, T.ib_9, T.ii_22, T.ii_23, T.ii_34, T.ii_9, T.ip_24, T.ip_3, T.ip_9, T.pl_32, T.s8_22, T.s8_23, T.s8_34, T.s8_9, T.sl_22, T.sl_23, T.sl_34, T.sl_9, T.st_22, T.st_23, T.st_34, T.st_9, T.un_22, T.un_23, T.un_34, T.un_9, T.zo_32, mk_str]
  refine (PutN_ph H (.slice none 0 0) [97, 46]).mono fun u H1 ⟨hu, hH⟩ => ?_
  subst hu hH
  simp (config := { dsimp := false, maxSteps := 10000000 }) (disch := omega) only [go_sem, reduceIte, Nat.reduceEqDiff, reduceCtorEq, Nat.reduceAdd, Nat.reduceMul, Int.reduceToNat, Int.reduceLE, Int.reduceLT, Int.reduceEq, Int.reduceNe, Nat.reduceLeDiff, Int.reducePow, Nat.reducePow, Nat.reduceLT, Nat.reduceSub, Nat.reduceMod, Nat.reduceDiv, slot_neg, slot_pos, T.ag_3, T.ag_9, T.eb_22, T.eb_23, T.eb_34, T.es_22, T.es_34, T.ez_22, T.ez_23, T.ez_34, T.gf_4, T.gf_5, T.gf_6, T.gf_7, T.gf_8, T.gf_9, T.ib_24, T.ib_3, T.ib_9, T.ii_22, T.ii_23, T.ii_34, T.ii_9, T.ip_24, T.ip_3, T.ip_9, T.pl_32, T.s8_22, T.s8_23, T.s8_34, T.s8_9, T.sl_22, T.sl_23, T.sl_34, T.sl_9, T.st_22, T.st_23, T.st_34, T.st_9, T.un_22, T.un_23, T.un_34, T.un_9, T.zo_32]
  have ho1 := hr1.one
  obtain ⟨A1, st1, hs1⟩ := hr1.form
  by_cases hbig : 20000 < B.length
  · have c1 : ((20000 : Int) < (B.length : Int)) = True := eq_true (by omega)
    (refine CodeH.seq' (CodeH.of_vc [] hm (by kernel_rfl) ?_); simp (config := { dsimp := false, maxSteps := 10000000 }) (disch := omega) only [go_sem, reduceIte, Nat.reduceEqDiff, reduceCtorEq, Nat.reduceAdd, Nat.reduceMul, Int.reduceToNat, Int.reduceLE, Int.reduceLT, Int.reduceEq, Int.reduceNe, Nat.reduceLeDiff, Int.reducePow, Nat.reducePow, Nat.reduceLT, Nat.reduceSub, Nat.reduceMod, Nat.reduceDiv, slot_neg, slot_pos, T.ag_3, T.ag_9, T.eb_22, T.eb_23, T.eb_34, T.es_22, T.es_34, T.ez_22, T.ez_23, T.ez_34, T.gf_4, T.gf_5, T.gf_6, T.gf_7, T.gf_8, T.gf_9, T.ib_24, T.ib_3, T.ib_9, T.ii_22, T.ii_23, T.ii_34, T.ii_9, T.ip_24, T.ip_3, T.ip_9, T.pl_32, T.s8_22, T.s8_23, T.s8_34, T.s8_9, T.sl_22, T.sl_23, T.sl_34, T.sl_9, T.st_22, T.st_23, T.st_34, T.st_9, T.un_22, T.un_23, T.un_34, T.un_9, T.zo_32, init_a])
    refine (named_ph H1).mono fun u H2 ⟨hu, hU2⟩ => ?_
    subst hu
    simp (config := { dsimp := false, maxSteps := 10000000 }) (disch := omega) only [go_sem, reduceIte, Nat.reduceEqDiff, reduceCtorEq, Nat.reduceAdd, Nat.reduceMul, Int.reduceToNat, Int.reduceLE, Int.reduceLT, Int.reduceEq, Int.reduceNe, Nat.reduceLeDiff, Int.reducePow, Nat.reducePow, Nat.reduceLT, Nat.reduceSub, Nat.reduceMod, Nat.reduceDiv, slot_neg, slot_pos, T.ag_3, T.ag_9, T.eb_22, T.eb_23, T.eb_34, T.es_22, T.es_34, T.ez_22, T.ez_23, T.ez_34, T.gf_4, T.gf_5, T.gf_6, T.gf_7, T.gf_8, T.gf_9, T.ib_24, T.ib_3, T.ib_9, T.ii_22, T.ii_23, T.ii_34, T.ii_9, T.ip_24, T.ip_3, T.ip_9, T.pl_32, T.s8_22, T.s8_23, T.s8_34, T.s8_9, T.sl_22, T.sl_23, T.sl_34, T.sl_9, T.st_22, T.st_23, T.st_34, T.st_9, T.un_22, T.un_23, T.un_34, T.un_9, T.zo_32, c1, len_in hr1]
    refine (named_ph H2).mono fun u H3 ⟨hu, hU3⟩ => ?_
    subst hu
    simp (config := { dsimp := false, maxSteps := 10000000 }) (disch := omega) only [go_sem, reduceIte, Nat.reduceEqDiff, reduceCtorEq, Nat.reduceAdd, Nat.reduceMul, Int.reduceToNat, Int.reduceLE, Int.reduceLT, Int.reduceEq, Int.reduceNe, Nat.reduceLeDiff, Int.reducePow, Nat.reducePow, Nat.reduceLT, Nat.reduceSub, Nat.reduceMod, Nat.reduceDiv, slot_neg, slot_pos, T.ag_3, T.ag_9, T.eb_22, T.eb_23, T.eb_34, T.es_22, T.es_34, T.ez_22, T.ez_23, T.ez_34, T.gf_4, T.gf_5, T.gf_6, T.gf_7, T.gf_8, T.gf_9, T.ib_24, T.ib_3, T.ib_9, T.ii_22, T.ii_23, T.ii_34, T.ii_9, T.ip_24, T.ip_3, T.ip_9, T.pl_32, T.s8_22, T.s8_23, T.s8_34, T.s8_9, T.sl_22, T.sl_23, T.sl_34, T.sl_9, T.st_22, T.st_23, T.st_34, T.st_9, T.un_22, T.un_23, T.un_34, T.un_9, T.zo_32, c1, len_in hr1]
  have c1 : ((20000 : Int) < (B.length : Int)) = False := eq_false (by omega)
  (refine CodeH.seq' (CodeH.of_vc [] hm (by kernel_rfl) ?_); simp (config := { dsimp := false, maxSteps := 10000000 }) (disch := omega) only [go_sem, reduceIte, Nat.reduceEqDiff, reduceCtorEq, Nat.reduceAdd, Nat.reduceMul, Int.reduceToNat, Int.reduceLE, Int.reduceLT, Int.reduceEq, Int.reduceNe, Nat.reduceLeDiff, Int.reducePow, Nat.reducePow, Nat.reduceLT, Nat.reduceSub, Nat.reduceMod, Nat.reduceDiv, slot_neg, slot_pos, T.ag_3, T.ag_9, T.eb_22, T.eb_23, T.eb_34, T.es_22, T.es_34, T.ez_22, T.ez_23, T.ez_34, T.gf_4, T.gf_5, T.gf_6, T.gf_7, T.gf_8, T.gf_9, T.ib_24, T.ib_3, T.ib_9, T.ii_22, T.ii_23, T.ii_34, T.ii_9, T.ip_24, T.ip_3, T.ip_9, T.pl_32, T.s8_22, T.s8_23, T.s8_34, T.s8_9, T.sl_22, T.sl_23, T.sl_34, T.sl_9, T.st_22, T.st_23, T.st_34, T.st_9, T.un_22, T.un_23, T.un_34, T.un_9, T.zo_32, init_a])
  refine (named_ph H1).mono fun u H2 ⟨hu, hU2⟩ => ?_
  subst hu
  simp (config := { dsimp := false, maxSteps := 10000000 }) (disch := omega) only [go_sem, reduceIte, Nat.reduceEqDiff, reduceCtorEq, Nat.reduceAdd, Nat.reduceMul, Int.reduceToNat, Int.reduceLE, Int.reduceLT, Int.reduceEq, Int.reduceNe, Nat.reduceLeDiff, Int.reducePow, Nat.reducePow, Nat.reduceLT, Nat.reduceSub, Nat.reduceMod, Nat.reduceDiv, slot_neg, slot_pos, T.ag_3, T.ag_9, T.eb_22, T.eb_23, T.eb_34, T.es_22, T.es_34, T.ez_22, T.ez_23, T.ez_34, T.gf_4, T.gf_5, T.gf_6, T.gf_7, T.gf_8, T.gf_9, T.ib_24, T.ib_3, T.ib_9, T.ii_22, T.ii_23, T.ii_34, T.ii_9, T.ip_24, T.ip_3, T.ip_9, T.pl_32, T.s8_22, T.s8_23, T.s8_34, T.s8_9, T.sl_22, T.sl_23, T.sl_34, T.sl_9, T.st_22, T.st_23, T.st_34, T.st_9, T.un_22, T.un_23, T.un_34, T.un_9, T.zo_32, c1, len_in hr1]
  (refine CodeH.seq' (CodeH.of_vc [] hm (by kernel_rfl) ?_); simp (config := { dsimp := false, maxSteps := 10000000 }) (disch := omega) only [go_sem, reduceIte, Nat.reduceEqDiff, reduceCtorEq, Nat.reduceAdd, Nat.reduceMul, Int.reduceToNat, Int.reduceLE, Int.reduceLT, Int.reduceEq, Int.reduceNe, Nat.reduceLeDiff, Int.reducePow, Nat.reducePow, Nat.reduceLT, Nat.reduceSub, Nat.reduceMod, Nat.reduceDiv, slot_neg, slot_pos, T.ag_3, T.ag_9, T.eb_22, T.eb_23, T.eb_34, T.es_22, T.es_34, T.ez_22, T.ez_23, T.ez_34, T.gf_4, T.gf_5, T.gf_6, T.gf_7, T.gf_8, T.gf_9, T.ib_24, T.ib_3, T.ib_9, T.ii_22, T.ii_23, T.ii_34, T.ii_9, T.ip_24, T.ip_3, T.ip_9, T.pl_32, T.s8_22, T.s8_23, T.s8_34, T.s8_9, T.sl_22, T.sl_23, T.sl_34, T.sl_9, T.st_22, T.st_23, T.st_34, T.st_9, T.un_22, T.un_23, T.un_34, T.un_9, T.zo_32, init_a])
  (refine CodeH.seq' (CodeH.of_vc [] hm (by kernel_rfl) ?_); simp (config := { dsimp := false, maxSteps := 10000000 }) (disch := omega) only [go_sem, reduceIte, Nat.reduceEqDiff, reduceCtorEq, Nat.reduceAdd, Nat.reduceMul, Int.reduceToNat, Int.reduceLE, Int.reduceLT, Int.reduceEq, Int.reduceNe, Nat.reduceLeDiff, Int.reducePow, Nat.reducePow, Nat.reduceLT, Nat.reduceSub, Nat.reduceMod, Nat.reduceDiv, slot_neg, slot_pos, T.ag_3, T.ag_9, T.eb_22, T.eb_23, T.eb_34, T.es_22, T.es_34, T.ez_22, T.ez_23, T.ez_34, T.gf_4, T.gf_5, T.gf_6, T.gf_7, T.gf_8, T.gf_9, T.ib_24, T.ib_3, T.ib_9, T.ii_22, T.ii_23, T.ii_34, T.ii_9, T.ip_24, T.ip_3, T.ip_9, T.pl_32, T.s8_22, T.s8_23, T.s8_34, T.s8_9, T.sl_22, T.sl_23, T.sl_34, T.sl_9, T.st_22, T.st_23, T.st_34, T.st_9, T.un_22, T.un_23, T.un_34, T.un_9, T.zo_32, init_a])
  (refine CodeH.seq' (CodeH.of_vc [] hm (by kernel_rfl) ?_); simp (config := { dsimp := false, maxSteps := 10000000 }) (disch := omega) only [go_sem, reduceIte, Nat.reduceEqDiff, reduceCtorEq, Nat.reduceAdd, Nat.reduceMul, Int.reduceToNat, Int.reduceLE, Int.reduceLT, Int.reduceEq, Int.reduceNe, Nat.reduceLeDiff, Int.reducePow, Nat.reducePow, Nat.reduceLT, Nat.reduceSub, Nat.reduceMod, Nat.reduceDiv, slot_neg, slot_pos, T.ag_3, T.ag_9, T.eb_22, T.eb_23, T.eb_34, T.es_22, T.es_34, T.ez_22, T.ez_23, T.ez_34, T.gf_4, T.gf_5, T.gf_6, T.gf_7, T.gf_8, T.gf_9, T.ib_24, T.ib_3, T.ib_9, T.ii_22, T.ii_23, T.ii_34, T.ii_9, T.ip_24, T.ip_3, T.ip_9, T.pl_32, T.s8_22, T.s8_23, T.s8_34, T.s8_9, T.sl_22, T.sl_23, T.sl_34, T.sl_9, T.st_22, T.st_23, T.st_34, T.st_9, T.un_22, T.un_23, T.un_34, T.un_9, T.zo_32, init_a])
  have hr1' := hr1.upd (h' := (H2.alloc (.cells [.map none] .own)).alloc (.cells [] .own)) fun A n st e => by
    have := hlt1 A n st e
    have h9 := hU2.1
    rw [get_alloc, if_neg (by show A.block ≠ H2.next + 1; omega), get_alloc, if_neg (by omega)]
    exact hU2.2 _ this (by simp)
  obtain ⟨v9, e9⟩ : ∃ v9 : Value, v9 = .slice (some ⟨H2.next + 1, 0, none⟩) 0 1 := ⟨_, rfl⟩
  have ho9 : OwnRow u8E ((H2.alloc (.cells [.map none] .own)).alloc (.cells [] .own)) v9 [H2.next + 1] [] := by rw [e9]; exact own_empty rfl
  rw [← e9]
  refine news_row (l := B) (by kernel_rfl) hr1' rfl ?_
  simp (config := { dsimp := false, maxSteps := 10000000 }) (disch := omega) only [go_sem, reduceIte, Nat.reduceEqDiff, reduceCtorEq, Nat.reduceAdd, Nat.reduceMul, Int.reduceToNat, Int.reduceLE, Int.reduceLT, Int.reduceEq, Int.reduceNe, Nat.reduceLeDiff, Int.reducePow, Nat.reducePow, Nat.reduceLT, Nat.reduceSub, Nat.reduceMod, Nat.reduceDiv, slot_neg, slot_pos, T.ag_3, T.ag_9, T.eb_22, T.eb_23, T.eb_34, T.es_22, T.es_34, T.ez_22, T.ez_23, T.ez_34, T.gf_4, T.gf_5, T.gf_6, T.gf_7, T.gf_8, T.gf_9, T.ib_24, T.ib_3, T.ib_9, T.ii_22, T.ii_23, T.ii_34, T.ii_9, T.ip_24, T.ip_3, T.ip_9, T.pl_32, T.s8_22, T.s8_23, T.s8_34, T.s8_9, T.sl_22, T.sl_23, T.sl_34, T.sl_9, T.st_22, T.st_23, T.st_34, T.st_9, T.un_22, T.un_23, T.un_34, T.un_9, T.zo_32]
  refine ⟨flat_one _, app_own (E := u8E) (ns := B) ho9 rfl rfl rfl (by simp only [List.length_nil]; omega) fun u5 H5 D5 hO5 hU5 hD5 => ?_⟩
  have ho5 := hO5.row.one
  simp (config := { dsimp := false, maxSteps := 10000000 }) (disch := omega) only [go_sem, reduceIte, Nat.reduceEqDiff, reduceCtorEq, Nat.reduceAdd, Nat.reduceMul, Int.reduceToNat, Int.reduceLE, Int.reduceLT, Int.reduceEq, Int.reduceNe, Nat.reduceLeDiff, Int.reducePow, Nat.reducePow, Nat.reduceLT, Nat.reduceSub, Nat.reduceMod, Nat.reduceDiv, slot_neg, slot_pos, T.ag_3, T.ag_9, T.eb_22, T.eb_23, T.eb_34, T.es_22, T.es_34, T.ez_22, T.ez_23, T.ez_34, T.gf_4, T.gf_5, T.gf_6, T.gf_7, T.gf_8, T.gf_9, T.ib_24, T.ib_3, T.ib_9, T.ii_22, T.ii_23, T.ii_34, T.ii_9, T.ip_24, T.ip_3, T.ip_9, T.pl_32, T.s8_22, T.s8_23, T.s8_34, T.s8_9, T.sl_22, T.sl_23, T.sl_34, T.sl_9, T.st_22, T.st_23, T.st_34, T.st_9, T.un_22, T.un_23, T.un_34, T.un_9, T.zo_32, ho5.1, ho5.2]
  rw [List.nil_append] at hO5
  have n2 := hU2.1
  have n5 : H2.next + 2 ≤ H5.next := hU5.1
  have m5 : ∀ d ∈ D5, H2.next + 1 ≤ d := fun d hd => by
    rcases hD5 d hd with h9 | h9
    · simp at h9; omega
    · have h8 : H2.next + 2 ≤ d := h9
      omega
  have hU15 : Upd H1 H5 [] := (((hU2.trans (Upd.alloc _ _ []) (by simp)).trans (Upd.alloc _ _ []) (by simp))).trans hU5 fun d hd => .inr (by simp at hd; omega)
  have hr5 := hr1.upd (h' := H5) fun A n st e => hU15.2 _ (hlt1 A n st e) (by simp)
  have hp5 : H5.get H2.next = .live (.cells [.map none] .own) := by
    rw [hU5.2 H2.next (by show H2.next < H2.next + 2; omega) (by simp), get_alloc, if_neg (by show H2.next ≠ H2.next + 1; omega), get_alloc, if_pos rfl]
  refine CodeH.seq (fun r H => r 0 = s0 ∧ r 7 = .pointer (some ⟨H2.next, 0, none⟩) ∧ r 8 = .slice none 0 0 ∧ r 9 = u5 ∧ r 10 = .string (str B) ∧ H = H5) ?_ ?_
  · rcases hr5 with ⟨hnil, e1⟩ | ⟨q, off, vs, o, e1, hg, hR⟩
    · subst hnil
      (refine CodeH.of_vc [] hm (by kernel_rfl) ?_; simp (config := { dsimp := false, maxSteps := 10000000 }) (disch := omega) only [go_sem, reduceIte, Nat.reduceEqDiff, reduceCtorEq, Nat.reduceAdd, Nat.reduceMul, Int.reduceToNat, Int.reduceLE, Int.reduceLT, Int.reduceEq, Int.reduceNe, Nat.reduceLeDiff, Int.reducePow, Nat.reducePow, Nat.reduceLT, Nat.reduceSub, Nat.reduceMod, Nat.reduceDiv, slot_neg, slot_pos, T.ag_3, T.ag_9, T.eb_22, T.eb_23, T.eb_34, T.es_22, T.es_34, T.ez_22, T.ez_23, T.ez_34, T.gf_4, T.gf_5, T.gf_6, T.gf_7, T.gf_8, T.gf_9, T.ib_24, T.ib_3, T.ib_9, T.ii_22, T.ii_23, T.ii_34, T.ii_9, T.ip_24, T.ip_3, T.ip_9, T.pl_32, T.s8_22, T.s8_23, T.s8_34, T.s8_9, T.sl_22, T.sl_23, T.sl_34, T.sl_9, T.st_22, T.st_23, T.st_34, T.st_9, T.un_22, T.un_23, T.un_34, T.un_9, T.zo_32, init_a, e1, str_empty])
    · have r2 : List.take B.length (List.drop off vs) = bc B := by have := hR.2; rw [u8_flat, show u8E.k = 1 from rfl, Nat.mul_one] at this; exact this
      have l2 : off + B.length ≤ vs.length := by have := hR.1; rw [show u8E.k = 1 from rfl, Nat.mul_one] at this; exact this
      rw [show u8E.k = 1 from rfl] at e1
      (refine CodeH.of_vc [] hm (by kernel_rfl) ?_; simp (config := { dsimp := false, maxSteps := 10000000 }) (disch := omega) only [go_sem, reduceIte, Nat.reduceEqDiff, reduceCtorEq, Nat.reduceAdd, Nat.reduceMul, Int.reduceToNat, Int.reduceLE, Int.reduceLT, Int.reduceEq, Int.reduceNe, Nat.reduceLeDiff, Int.reducePow, Nat.reducePow, Nat.reduceLT, Nat.reduceSub, Nat.reduceMod, Nat.reduceDiv, slot_neg, slot_pos, T.ag_3, T.ag_9, T.eb_22, T.eb_23, T.eb_34, T.es_22, T.es_34, T.ez_22, T.ez_23, T.ez_34, T.gf_4, T.gf_5, T.gf_6, T.gf_7, T.gf_8, T.gf_9, T.ib_24, T.ib_3, T.ib_9, T.ii_22, T.ii_23, T.ii_34, T.ii_9, T.ip_24, T.ip_3, T.ip_9, T.pl_32, T.s8_22, T.s8_23, T.s8_34, T.s8_9, T.sl_22, T.sl_23, T.sl_34, T.sl_9, T.st_22, T.st_23, T.st_34, T.st_9, T.un_22, T.un_23, T.un_34, T.un_9, T.zo_32, init_a, e1, hg, r2, bc_val])
      exact l2
  rintro r H ⟨q0, q7, q8, q9, q10, rfl⟩
  (refine CodeH.seq' (CodeH.of_vc [] hm (by kernel_rfl) ?_); simp (config := { dsimp := false, maxSteps := 10000000 }) (disch := omega) only [go_sem, reduceIte, Nat.reduceEqDiff, reduceCtorEq, Nat.reduceAdd, Nat.reduceMul, Int.reduceToNat, Int.reduceLE, Int.reduceLT, Int.reduceEq, Int.reduceNe, Nat.reduceLeDiff, Int.reducePow, Nat.reducePow, Nat.reduceLT, Nat.reduceSub, Nat.reduceMod, Nat.reduceDiv, slot_neg, slot_pos, T.ag_3, T.ag_9, T.eb_22, T.eb_23, T.eb_34, T.es_22, T.es_34, T.ez_22, T.ez_23, T.ez_34, T.gf_4, T.gf_5, T.gf_6, T.gf_7, T.gf_8, T.gf_9, T.ib_24, T.ib_3, T.ib_9, T.ii_22, T.ii_23, T.ii_34, T.ii_9, T.ip_24, T.ip_3, T.ip_9, T.pl_32, T.s8_22, T.s8_23, T.s8_34, T.s8_9, T.sl_22, T.sl_23, T.sl_34, T.sl_9, T.st_22, T.st_23, T.st_34, T.st_9, T.un_22, T.un_23, T.un_34, T.un_9, T.zo_32, init_a])
  (refine CodeH.seq' (CodeH.of_vc [] hm (by kernel_rfl) ?_); simp (config := { dsimp := false, maxSteps := 10000000 }) (disch := omega) only [go_sem, reduceIte, Nat.reduceEqDiff, reduceCtorEq, Nat.reduceAdd, Nat.reduceMul, Int.reduceToNat, Int.reduceLE, Int.reduceLT, Int.reduceEq, Int.reduceNe, Nat.reduceLeDiff, Int.reducePow, Nat.reducePow, Nat.reduceLT, Nat.reduceSub, Nat.reduceMod, Nat.reduceDiv, slot_neg, slot_pos, T.ag_3, T.ag_9, T.eb_22, T.eb_23, T.eb_34, T.es_22, T.es_34, T.ez_22, T.ez_23, T.ez_34, T.gf_4, T.gf_5, T.gf_6, T.gf_7, T.gf_8, T.gf_9, T.ib_24, T.ib_3, T.ib_9, T.ii_22, T.ii_23, T.ii_34, T.ii_9, T.ip_24, T.ip_3, T.ip_9, T.pl_32, T.s8_22, T.s8_23, T.s8_34, T.s8_9, T.sl_22, T.sl_23, T.sl_34, T.sl_9, T.st_22, T.st_23, T.st_34, T.st_9, T.un_22, T.un_23, T.un_34, T.un_9, T.zo_32, init_a])
  obtain ⟨pt, ept⟩ : ∃ pt, pt = H2.next := ⟨_, rfl⟩
  rw [← ept] at q7 hp5
  have hpH : pt < H.next := by omega
  have hp1 : H1.next ≤ pt := by omega
  have hmD5 : ∀ d ∈ D5, H1.next ≤ d ∧ d ≠ pt ∧ d ∉ ([] : List Nat) := fun d hd => ⟨by have := m5 d hd; omega, by have := m5 d hd; omega, by simp⟩
  clear hU5 hD5 m5 n5 hr5 hr1' ho9 e9 hU2 n2 ept
  refine CodeH.seq (fun r H => ∃ i M Db Da Dh Dm mv bv av hv t m b at_ had, NS H1 H pt i M Db Da Dh Dm mv bv av hv t m b at_ had ∧ i ≤ 40 ∧ r 9 = bv ∧ r 11 = av ∧ r 12 = hv) (CodeH.of_vc [] hm (by kernel_rfl) ?_) ?_
  · simp (config := { dsimp := false, maxSteps := 10000000 }) (disch := omega) only [go_sem, reduceIte, Nat.reduceEqDiff, reduceCtorEq, Nat.reduceAdd, Nat.reduceMul, Int.reduceToNat, Int.reduceLE, Int.reduceLT, Int.reduceEq, Int.reduceNe, Nat.reduceLeDiff, Int.reducePow, Nat.reducePow, Nat.reduceLT, Nat.reduceSub, Nat.reduceMod, Nat.reduceDiv, slot_neg, slot_pos, T.ag_3, T.ag_9, T.eb_22, T.eb_23, T.eb_34, T.es_22, T.es_34, T.ez_22, T.ez_23, T.ez_34, T.gf_4, T.gf_5, T.gf_6, T.gf_7, T.gf_8, T.gf_9, T.ib_24, T.ib_3, T.ib_9, T.ii_22, T.ii_23, T.ii_34, T.ii_9, T.ip_24, T.ip_3, T.ip_9, T.pl_32, T.s8_22, T.s8_23, T.s8_34, T.s8_9, T.sl_22, T.sl_23, T.sl_34, T.sl_9, T.st_22, T.st_23, T.st_34, T.st_9, T.un_22, T.un_23, T.un_34, T.un_9, T.zo_32, q0, q7, q8, q9, q10]
    refine loop_intro [] hm (fun r H => ∃ i M Db Da Dh Dm mv bv av hv t m b at_ had, NS H1 H pt i M Db Da Dh Dm mv bv av hv t m b at_ had ∧ i ≤ 40 ∧ i ≤ le.length ∧ r 0 = s0 ∧ r 7 = .pointer (some ⟨pt, 0, none⟩) ∧ r 8 = mv ∧ r 9 = bv ∧ r 10 = .string (str b) ∧ r 11 = av ∧ r 12 = hv ∧ r 13 = .int .i64 i) (fun r _ => match r 13 with | .int _ i => le.length - i.toNat | _ => 0) ?_ ?_
    · exact ⟨0, [], D5, [], [], [], _, u5, _, _, [], [], B, [], [], ⟨⟨hpH, .inl ⟨hp5, rfl, rfl⟩⟩, hO5, OwnRow.nil _, OwnRow.nil _, OwnRow.nil _, hmD5, by simp, by simp, by simp, hp1, by simp, hU15, ⟨fun k => rfl, by simp⟩, by simp, Got.nil _, by simp, by omega, by simp⟩, by omega, by omega, by simp [upd, q0], by simp [upd, q7], by simp [upd, q8], by simp [upd, q9], by simp [upd, q10], by simp [upd], by simp [upd], by simp [upd]⟩
    · rintro r H4 ⟨i, M, Db, Da, Dh, Dm, mv, bv, av, hv, t, m, b, at_, had, hS, hi40, hil, q0, q7, q8, q9, q10, q11, q12, q13⟩
      have hr4 := hr0.upd (h' := H4) fun A n st e => hS.hU.2 _ (hlt0 A n st e) (by simp)
      have hov := hS.rb.row.one
      by_cases hlast : i < le.length ∧ i < 40
      · obtain ⟨hi1, hi2⟩ := hlast
        have c2 : ((i : Int) < (le.length : Int)) = True := eq_true (by omega)
        have c3 : ((i : Int) < 40) = True := eq_true (by omega)
        have wi : IntKind.i64.wrap ((i : Int) + 1) = ((i + 1 : Nat) : Int) := by rw [i64wrap] <;> omega
        have hx : le[i]? = some le[i] := List.getElem?_eq_getElem hi1
        have hxl := hstr _ (List.getElem_mem hi1)
        rcases hr4 with ⟨_, h0⟩ | ⟨q, off, vs, o, e1, hg, hR⟩
        · rw [h0] at hi1; simp at hi1
        have hcell := hR.cell hx (j := 0) Nat.zero_lt_one
        rw [show tE.k = 1 from rfl, Nat.mul_one, Nat.add_zero] at hcell
        generalize le[i] = nm at *
        replace hcell : vs[off + i]? = some (.string (str nm)) := hcell
        rw [show tE.k = 1 from rfl] at e1
        simp (config := { dsimp := false, maxSteps := 10000000 }) (disch := omega) only [go_sem, reduceIte, Nat.reduceEqDiff, reduceCtorEq, Nat.reduceAdd, Nat.reduceMul, Int.reduceToNat, Int.reduceLE, Int.reduceLT, Int.reduceEq, Int.reduceNe, Nat.reduceLeDiff, Int.reducePow, Nat.reducePow, Nat.reduceLT, Nat.reduceSub, Nat.reduceMod, Nat.reduceDiv, slot_neg, slot_pos, T.ag_3, T.ag_9, T.eb_22, T.eb_23, T.eb_34, T.es_22, T.es_34, T.ez_22, T.ez_23, T.ez_34, T.gf_4, T.gf_5, T.gf_6, T.gf_7, T.gf_8, T.gf_9, T.ib_24, T.ib_3, T.ib_9, T.ii_22, T.ii_23, T.ii_34, T.ii_9, T.ip_24, T.ip_3, T.ip_9, T.pl_32, T.s8_22, T.s8_23, T.s8_34, T.s8_9, T.sl_22, T.sl_23, T.sl_34, T.sl_9, T.st_22, T.st_23, T.st_34, T.st_9, T.un_22, T.un_23, T.un_34, T.un_9, T.zo_32, q0, q7, q8, q9, q10, q11, q12, q13, c2, c3, e1, hg, hcell]
        have hqn : q < H1.next := hlt0 _ _ _ e1
        have hbb := hS.lb
        have hmm := hS.lm
        refine (Put_ph H4 pt M t bv Db b nm hS.tab hS.rb (fun d hd => (hS.dB d hd).2) (by omega) (by omega) (fun x hx => by have := (hS.good x hx).lt; omega)).mono fun u Ha hua => ?_
        cases hn : nameOf nm with
        | none =>
          rw [hn] at hua
          obtain ⟨rfl, hUa⟩ := hua
          have hga := (hUa.2 q (Nat.lt_of_lt_of_le hqn hS.hU.1) (by simp)).trans hg
          simp (config := { dsimp := false, maxSteps := 10000000 }) (disch := omega) only [go_sem, reduceIte, Nat.reduceEqDiff, reduceCtorEq, Nat.reduceAdd, Nat.reduceMul, Int.reduceToNat, Int.reduceLE, Int.reduceLT, Int.reduceEq, Int.reduceNe, Nat.reduceLeDiff, Int.reducePow, Nat.reducePow, Nat.reduceLT, Nat.reduceSub, Nat.reduceMod, Nat.reduceDiv, slot_neg, slot_pos, T.ag_3, T.ag_9, T.eb_22, T.eb_23, T.eb_34, T.es_22, T.es_34, T.ez_22, T.ez_23, T.ez_34, T.gf_4, T.gf_5, T.gf_6, T.gf_7, T.gf_8, T.gf_9, T.ib_24, T.ib_3, T.ib_9, T.ii_22, T.ii_23, T.ii_34, T.ii_9, T.ip_24, T.ip_3, T.ip_9, T.pl_32, T.s8_22, T.s8_23, T.s8_34, T.s8_9, T.sl_22, T.sl_23, T.sl_34, T.sl_9, T.st_22, T.st_23, T.st_34, T.st_9, T.un_22, T.un_23, T.un_34, T.un_9, T.zo_32, q0, q7, q8, q9, q10, q11, q12, q13, c2, c3, e1, hga, hcell]
          refine (DocPut_ph Ha mv Dm m b nm (hS.rm.upd hUa (by simp)) (by omega) (by omega) (by omega)).mono fun u Hb ⟨hUb, hub⟩ => ?_
          rw [hn] at hub
          dsimp only at hub
          subst hub
          simp (config := { dsimp := false, maxSteps := 10000000 }) (disch := omega) only [go_sem, reduceIte, Nat.reduceEqDiff, reduceCtorEq, Nat.reduceAdd, Nat.reduceMul, Int.reduceToNat, Int.reduceLE, Int.reduceLT, Int.reduceEq, Int.reduceNe, Nat.reduceLeDiff, Int.reducePow, Nat.reducePow, Nat.reduceLT, Nat.reduceSub, Nat.reduceMod, Nat.reduceDiv, slot_neg, slot_pos, T.ag_3, T.ag_9, T.eb_22, T.eb_23, T.eb_34, T.es_22, T.es_34, T.ez_22, T.ez_23, T.ez_34, T.gf_4, T.gf_5, T.gf_6, T.gf_7, T.gf_8, T.gf_9, T.ib_24, T.ib_3, T.ib_9, T.ii_22, T.ii_23, T.ii_34, T.ii_9, T.ip_24, T.ip_3, T.ip_9, T.pl_32, T.s8_22, T.s8_23, T.s8_34, T.s8_9, T.sl_22, T.sl_23, T.sl_34, T.sl_9, T.st_22, T.st_23, T.st_34, T.st_9, T.un_22, T.un_23, T.un_34, T.un_9, T.zo_32, q0, q7, q8, q9, q10, q11, q12, q13, c2, c3, wi]
          exact ⟨⟨i + 1, M, Db, Da, Dh, Dm, mv, bv, av, hv, t, m, b, at_, had, hS.upd (hUa.trans hUb (by simp)), by omega, by omega, rfl, rfl, rfl, rfl, rfl, rfl⟩, by omega⟩
        | some ps =>
          rw [hn] at hua
          obtain ⟨w, D', M', rfl, hTa, hOa, hDa, hMa, hUa⟩ := hua
          have qF : q ∉ pt :: M ++ Db := fun hh => by
            simp at hh
            rcases hh with h9 | h9 | h9
            · have := hS.hp; omega
            · have := (hS.hM q h9).1; omega
            · have := (hS.dB q h9).1; omega
          have hga := (hUa.2 q (Nat.lt_of_lt_of_le hqn hS.hU.1) qF).trans hg
          have nF : ∀ d, d ≠ pt → d ∉ M → d ∉ Db → d ∉ pt :: M ++ Db := fun d h1 h2 h3 hh => by
            simp at hh
            rcases hh with h9 | h9 | h9
            · exact h1 h9
            · exact h2 h9
            · exact h3 h9
          have how := hOa.row.one
          simp (config := { dsimp := false, maxSteps := 10000000 }) (disch := omega) only [go_sem, reduceIte, Nat.reduceEqDiff, reduceCtorEq, Nat.reduceAdd, Nat.reduceMul, Int.reduceToNat, Int.reduceLE, Int.reduceLT, Int.reduceEq, Int.reduceNe, Nat.reduceLeDiff, Int.reducePow, Nat.reducePow, Nat.reduceLT, Nat.reduceSub, Nat.reduceMod, Nat.reduceDiv, slot_neg, slot_pos, T.ag_3, T.ag_9, T.eb_22, T.eb_23, T.eb_34, T.es_22, T.es_34, T.ez_22, T.ez_23, T.ez_34, T.gf_4, T.gf_5, T.gf_6, T.gf_7, T.gf_8, T.gf_9, T.ib_24, T.ib_3, T.ib_9, T.ii_22, T.ii_23, T.ii_34, T.ii_9, T.ip_24, T.ip_3, T.ip_9, T.pl_32, T.s8_22, T.s8_23, T.s8_34, T.s8_9, T.sl_22, T.sl_23, T.sl_34, T.sl_9, T.st_22, T.st_23, T.st_34, T.st_9, T.un_22, T.un_23, T.un_34, T.un_9, T.zo_32, q0, q7, q8, q9, q10, q11, q12, q13, c2, c3, e1, hga, hcell, how.1, how.2]
          refine (DocPut_ph Ha mv Dm m b nm (hS.rm.upd hUa fun d hd => nF d (hS.dM d hd).1 (hS.dM d hd).2.1 (hS.dM d hd).2.2.1) (by omega) (by omega) (by omega)).mono fun u Hb ⟨hUb, hub⟩ => ?_
          rw [hn] at hub
          obtain ⟨w2, D2, rfl, hO2, hD2⟩ := hub
          obtain ⟨hsame, hsame2⟩ := doc_put ps t m b hS.same
          obtain ⟨hgot, hgood, hlo, hhi⟩ := put_got hS.got hS.good hn
          have hw2 := hO2.row.one
          have hOb := hOa.upd hUb (by simp)
          rw [hsame]
          generalize (putP t b ps).2 = c at *
          have hgb := (hUb.2 q (by have := hUa.1; have := hS.hU.1; omega) (by simp)).trans hga
          simp (config := { dsimp := false, maxSteps := 10000000 }) (disch := omega) only [go_sem, reduceIte, Nat.reduceEqDiff, reduceCtorEq, Nat.reduceAdd, Nat.reduceMul, Int.reduceToNat, Int.reduceLE, Int.reduceLT, Int.reduceEq, Int.reduceNe, Nat.reduceLeDiff, Int.reducePow, Nat.reducePow, Nat.reduceLT, Nat.reduceSub, Nat.reduceMod, Nat.reduceDiv, slot_neg, slot_pos, T.ag_3, T.ag_9, T.eb_22, T.eb_23, T.eb_34, T.es_22, T.es_34, T.ez_22, T.ez_23, T.ez_34, T.gf_4, T.gf_5, T.gf_6, T.gf_7, T.gf_8, T.gf_9, T.ib_24, T.ib_3, T.ib_9, T.ii_22, T.ii_23, T.ii_34, T.ii_9, T.ip_24, T.ip_3, T.ip_9, T.pl_32, T.s8_22, T.s8_23, T.s8_34, T.s8_9, T.sl_22, T.sl_23, T.sl_34, T.sl_9, T.st_22, T.st_23, T.st_34, T.st_9, T.un_22, T.un_23, T.un_34, T.un_9, T.zo_32, q0, q7, q8, q9, q10, q11, q12, q13, c2, c3, wi, conv_in hOb.row, e1, hgb, hcell]
          refine (Wire_ph Hb nm (by omega)).mono fun u Hc ⟨hUc, huc⟩ => ?_
          have hwn : wireS nm = some (wireP ps ++ [0]) := by unfold wireS; rw [hn]; rfl
          rw [hwn] at huc
          obtain ⟨w3, D3, rfl, hO3, hD3⟩ := huc
          have hgc := (hUc.2 q (by have := hUa.1; have := hUb.1; have := hS.hU.1; omega) (by simp)).trans hgb
          have hwl : (wireP ps).length ≤ 254 := by rw [wireP_len]; exact name_len hn
          have wsub : IntKind.i64.wrap ((c.length : Int) - (b.length : Int)) = ((c.length - b.length : Nat) : Int) := by rw [i64wrap] <;> omega
          have d4 : ((((wireP ps ++ [0]).length : Nat) : Int) < ((c.length - b.length : Nat) : Int)) = False := eq_false (by rw [List.length_append, List.length_singleton]; omega)
          simp (config := { dsimp := false, maxSteps := 10000000 }) (disch := omega) only [go_sem, reduceIte, Nat.reduceEqDiff, reduceCtorEq, Nat.reduceAdd, Nat.reduceMul, Int.reduceToNat, Int.reduceLE, Int.reduceLT, Int.reduceEq, Int.reduceNe, Nat.reduceLeDiff, Int.reducePow, Nat.reducePow, Nat.reduceLT, Nat.reduceSub, Nat.reduceMod, Nat.reduceDiv, slot_neg, slot_pos, T.ag_3, T.ag_9, T.eb_22, T.eb_23, T.eb_34, T.es_22, T.es_34, T.ez_22, T.ez_23, T.ez_34, T.gf_4, T.gf_5, T.gf_6, T.gf_7, T.gf_8, T.gf_9, T.ib_24, T.ib_3, T.ib_9, T.ii_22, T.ii_23, T.ii_34, T.ii_9, T.ip_24, T.ip_3, T.ip_9, T.pl_32, T.s8_22, T.s8_23, T.s8_34, T.s8_9, T.sl_22, T.sl_23, T.sl_34, T.sl_9, T.st_22, T.st_23, T.st_34, T.st_9, T.un_22, T.un_23, T.un_34, T.un_9, T.zo_32, q0, q7, q8, q9, q10, q11, q12, q13, c2, c3, wi, len_in hOb.row, len_own hS.rb, len_in hO3.row, wsub, d4]
          have hRa : OwnRow niE Hc av Da at_ := ((hS.ra.upd hUa fun d hd => nF d (hS.dA d hd).2.1 (hS.dA d hd).2.2.1 (hS.dA d hd).2.2.2).upd hUb (by simp)).upd hUc (by simp)
          have hRh : OwnRow tE Hc hv Dh had := ((hS.rh.upd hUa fun d hd => nF d (hS.dH d hd).2.1 (hS.dH d hd).2.2.1 (hS.dH d hd).2.2.2.1).upd hUb (by simp)).upd hUc (by simp)
          have hoa := hRa.row.one
          have hoh := hRh.row.one
          have qn : (q ∈ Da ++ Dh) = False := eq_false fun hh => by
            rcases List.mem_append.1 hh with h9 | h9
            · have := (hS.dA q h9).1; omega
            · have := (hS.dH q h9).1; omega
          have dHa : ∀ d ∈ Dh, d ∉ Da := fun d hd => (hS.dH d hd).2.2.2.2
          have dAh : ∀ d ∈ Da, d ∉ Dh := fun d hd hh => dHa d hh hd
          have ra0 : OwnRow niE (Hc.mask (Da ++ Dh)) av Da at_ := hRa.maskW fun d hd => by simp [hd]
          have rh0 : OwnRow tE (Hc.mask (Da ++ Dh)) hv Dh had := hRh.maskW fun d hd => by simp [hd]
          have ltA := hRa.lt
          have ltH := hRh.lt
          have hba := hS.la
          have nx1 := hS.hU.1
          have nx2 := hUa.1
          have nx3 := hUb.1
          have nx4 := hUc.1
          have hbh := hS.got.1
          refine draw_cut (fun r' H' => ∃ av' hv' Da' Dh', r' 11 = av' ∧ r' 12 = hv' ∧ r' 0 = s0 ∧ r' 7 = .pointer (some ⟨pt, 0, none⟩) ∧ r' 13 = .int .i64 i ∧ r' 14 = w ∧ r' 16 = w2 ∧ r' 17 = .string (str c) ∧ NX Hc H' Da Dh Da' Dh' av' hv' (at_ ++ [b.length]) (had ++ [nm])) (Da ++ Dh) (.take 0 (.take 1 (.take 2 (.take 5 (.take 6 (.take 7 (.take 8 (.take 9 (.alt 3 (.alt 4 (.alt 10 (.alt 11 (.takeS 12 (.takeS 13 .done)) .stop) .stop) (.alt 10 (.alt 4 (.alt 11 (.takeS 12 (.takeS 13 .done)) .stop) .stop) .stop)) (.alt 10 (.alt 3 (.alt 4 (.alt 11 (.takeS 12 (.takeS 13 .done)) .stop) .stop) .stop) .stop)))))))))) hm (by kernel_rfl) (by kernel_rfl) ?_ ?_
          · simp (config := { dsimp := false, maxSteps := 10000000 }) (disch := omega) only [go_sem, reduceIte, Nat.reduceEqDiff, reduceCtorEq, Nat.reduceAdd, Nat.reduceMul, Int.reduceToNat, Int.reduceLE, Int.reduceLT, Int.reduceEq, Int.reduceNe, Nat.reduceLeDiff, Int.reducePow, Nat.reducePow, Nat.reduceLT, Nat.reduceSub, Nat.reduceMod, Nat.reduceDiv, slot_neg, slot_pos, T.ag_3, T.ag_9, T.eb_22, T.eb_23, T.eb_34, T.es_22, T.es_34, T.ez_22, T.ez_23, T.ez_34, T.gf_4, T.gf_5, T.gf_6, T.gf_7, T.gf_8, T.gf_9, T.ib_24, T.ib_3, T.ib_9, T.ii_22, T.ii_23, T.ii_34, T.ii_9, T.ip_24, T.ip_3, T.ip_9, T.pl_32, T.s8_22, T.s8_23, T.s8_34, T.s8_9, T.sl_22, T.sl_23, T.sl_34, T.sl_9, T.st_22, T.st_23, T.st_34, T.st_9, T.un_22, T.un_23, T.un_34, T.un_9, T.zo_32, q0, q7, q8, q9, q10, q11, q12, q13, c2, c3, wi, len_in hOb.row, len_own hS.rb, hoa.1, hoa.2, hoh.1, hoh.2, e1, hgc, hcell, qn, lock_live', lock_cells, lk_own, acc_row hS.rb.row]
            refine ⟨by omega, ⟨?_, ?_⟩, ?_⟩
            · refine app_own (E := niE) (ns := [b.length]) (ra0.upd (Upd.alloc _ _ []) (by simp)) rfl rfl rfl (by simp only [List.length_singleton]; omega) fun u6 H6 D6 hO6 hU6 hD6 => ?_
              have ho6 := hO6.row.one
              simp (config := { dsimp := false, maxSteps := 10000000 }) (disch := omega) only [go_sem, reduceIte, Nat.reduceEqDiff, reduceCtorEq, Nat.reduceAdd, Nat.reduceMul, Int.reduceToNat, Int.reduceLE, Int.reduceLT, Int.reduceEq, Int.reduceNe, Nat.reduceLeDiff, Int.reducePow, Nat.reducePow, Nat.reduceLT, Nat.reduceSub, Nat.reduceMod, Nat.reduceDiv, slot_neg, slot_pos, T.ag_3, T.ag_9, T.eb_22, T.eb_23, T.eb_34, T.es_22, T.es_34, T.ez_22, T.ez_23, T.ez_34, T.gf_4, T.gf_5, T.gf_6, T.gf_7, T.gf_8, T.gf_9, T.ib_24, T.ib_3, T.ib_9, T.ii_22, T.ii_23, T.ii_34, T.ii_9, T.ip_24, T.ip_3, T.ip_9, T.pl_32, T.s8_22, T.s8_23, T.s8_34, T.s8_9, T.sl_22, T.sl_23, T.sl_34, T.sl_9, T.st_22, T.st_23, T.st_34, T.st_9, T.un_22, T.un_23, T.un_34, T.un_9, T.zo_32, ho6.1, ho6.2, hoh.1, hoh.2]
              have n6 : Hc.next + 1 ≤ H6.next := hU6.1
              have m6 : ∀ d ∈ D6, d ∈ Da ∨ Hc.next + 1 ≤ d := fun d hd => hD6 d hd
              have rh6 := (rh0.upd (Upd.alloc _ _ []) (by simp)).upd hU6 dHa
              replace rh6 := rh6.upd (F := []) (Upd.alloc H6 (.cells [.string (str nm)] .own) []) (by simp)
              refine app_own (E := tE) (ns := [nm]) rh6 rfl rfl rfl (by simp only [List.length_singleton]; omega) fun u7 H7 D7 hO7 hU7 hD7 => ?_
              have ho7 := hO7.row.one
              simp (config := { dsimp := false, maxSteps := 10000000 }) (disch := omega) only [go_sem, reduceIte, Nat.reduceEqDiff, reduceCtorEq, Nat.reduceAdd, Nat.reduceMul, Int.reduceToNat, Int.reduceLE, Int.reduceLT, Int.reduceEq, Int.reduceNe, Nat.reduceLeDiff, Int.reducePow, Nat.reducePow, Nat.reduceLT, Nat.reduceSub, Nat.reduceMod, Nat.reduceDiv, slot_neg, slot_pos, T.ag_3, T.ag_9, T.eb_22, T.eb_23, T.eb_34, T.es_22, T.es_34, T.ez_22, T.ez_23, T.ez_34, T.gf_4, T.gf_5, T.gf_6, T.gf_7, T.gf_8, T.gf_9, T.ib_24, T.ib_3, T.ib_9, T.ii_22, T.ii_23, T.ii_34, T.ii_9, T.ip_24, T.ip_3, T.ip_9, T.pl_32, T.s8_22, T.s8_23, T.s8_34, T.s8_9, T.sl_22, T.sl_23, T.sl_34, T.sl_9, T.st_22, T.st_23, T.st_34, T.st_9, T.un_22, T.un_23, T.un_34, T.un_9, T.zo_32, q0, q7, q13, ho6.1, ho6.2, ho7.1, ho7.2]
              have n7 : H6.next + 1 ≤ H7.next := hU7.1
              have m7 : ∀ d ∈ D7, d ∈ Dh ∨ H6.next + 1 ≤ d := fun d hd => hD7 d hd
              have d6 : ∀ d ∈ D6, d ∉ Dh := fun d hd hh => by rcases m6 d hd with h9 | h9; exact dAh d h9 hh; have := ltH d hh; omega
              have ra7 := (hO6.upd (F := []) (Upd.alloc H6 (.cells [.string (str nm)] .own) []) (by simp)).upd hU7 d6
              have l6 := hO6.lt
              refine ⟨u6, u7, D6, D7, rfl, rfl, NX.of ra7 hO7 (fun d hd => (m6 d hd).imp id fun h9 => by omega) (fun d hd => (m7 d hd).imp id fun h9 => by omega) (fun d hd hh => ?_) (by omega)⟩
              rcases m7 d hd with h9 | h9
              · exact d6 d hh h9
              · have := l6 d hh; omega
            · refine app_own (E := niE) (ns := [b.length]) ((ra0.upd (Upd.alloc _ _ []) (by simp)).upd (Upd.alloc _ _ []) (by simp)) rfl rfl rfl (by simp only [List.length_singleton]; omega) fun u6 H6 D6 hO6 hU6 hD6 => ?_
              have ho6 := hO6.row.one
              have gC : H6.get (Hc.next + 1) = .live (.cells [.string (str nm)] .own) := by rw [hU6.2 (Hc.next + 1) (by show Hc.next + 1 < Hc.next + 2; omega) (fun hh => by have := ltA _ hh; omega), get_alloc]; exact if_pos rfl
              simp (config := { dsimp := false, maxSteps := 10000000 }) (disch := omega) only [go_sem, reduceIte, Nat.reduceEqDiff, reduceCtorEq, Nat.reduceAdd, Nat.reduceMul, Int.reduceToNat, Int.reduceLE, Int.reduceLT, Int.reduceEq, Int.reduceNe, Nat.reduceLeDiff, Int.reducePow, Nat.reducePow, Nat.reduceLT, Nat.reduceSub, Nat.reduceMod, Nat.reduceDiv, slot_neg, slot_pos, T.ag_3, T.ag_9, T.eb_22, T.eb_23, T.eb_34, T.es_22, T.es_34, T.ez_22, T.ez_23, T.ez_34, T.gf_4, T.gf_5, T.gf_6, T.gf_7, T.gf_8, T.gf_9, T.ib_24, T.ib_3, T.ib_9, T.ii_22, T.ii_23, T.ii_34, T.ii_9, T.ip_24, T.ip_3, T.ip_9, T.pl_32, T.s8_22, T.s8_23, T.s8_34, T.s8_9, T.sl_22, T.sl_23, T.sl_34, T.sl_9, T.st_22, T.st_23, T.st_34, T.st_9, T.un_22, T.un_23, T.un_34, T.un_9, T.zo_32, ho6.1, ho6.2, hoh.1, hoh.2, gC]
              have n6 : Hc.next + 2 ≤ H6.next := hU6.1
              have m6 : ∀ d ∈ D6, d ∈ Da ∨ Hc.next + 2 ≤ d := fun d hd => hD6 d hd
              have rh6 := ((rh0.upd (Upd.alloc _ _ []) (by simp)).upd (Upd.alloc _ _ []) (by simp)).upd hU6 dHa
              refine app_own (E := tE) (ns := [nm]) rh6 rfl rfl rfl (by simp only [List.length_singleton]; omega) fun u7 H7 D7 hO7 hU7 hD7 => ?_
              have ho7 := hO7.row.one
              simp (config := { dsimp := false, maxSteps := 10000000 }) (disch := omega) only [go_sem, reduceIte, Nat.reduceEqDiff, reduceCtorEq, Nat.reduceAdd, Nat.reduceMul, Int.reduceToNat, Int.reduceLE, Int.reduceLT, Int.reduceEq, Int.reduceNe, Nat.reduceLeDiff, Int.reducePow, Nat.reducePow, Nat.reduceLT, Nat.reduceSub, Nat.reduceMod, Nat.reduceDiv, slot_neg, slot_pos, T.ag_3, T.ag_9, T.eb_22, T.eb_23, T.eb_34, T.es_22, T.es_34, T.ez_22, T.ez_23, T.ez_34, T.gf_4, T.gf_5, T.gf_6, T.gf_7, T.gf_8, T.gf_9, T.ib_24, T.ib_3, T.ib_9, T.ii_22, T.ii_23, T.ii_34, T.ii_9, T.ip_24, T.ip_3, T.ip_9, T.pl_32, T.s8_22, T.s8_23, T.s8_34, T.s8_9, T.sl_22, T.sl_23, T.sl_34, T.sl_9, T.st_22, T.st_23, T.st_34, T.st_9, T.un_22, T.un_23, T.un_34, T.un_9, T.zo_32, q0, q7, q13, ho6.1, ho6.2, ho7.1, ho7.2]
              have n7 : H6.next ≤ H7.next := hU7.1
              have m7 : ∀ d ∈ D7, d ∈ Dh ∨ H6.next ≤ d := fun d hd => hD7 d hd
              have d6 : ∀ d ∈ D6, d ∉ Dh := fun d hd hh => by rcases m6 d hd with h9 | h9; exact dAh d h9 hh; have := ltH d hh; omega
              have ra7 := hO6.upd hU7 d6
              have l6 := hO6.lt
              refine ⟨u6, u7, D6, D7, rfl, rfl, NX.of ra7 hO7 (fun d hd => (m6 d hd).imp id fun h9 => by omega) (fun d hd => (m7 d hd).imp id fun h9 => by omega) (fun d hd hh => ?_) (by omega)⟩
              rcases m7 d hd with h9 | h9
              · exact d6 d hh h9
              · have := l6 d hh; omega
            · refine app_own (E := niE) (ns := [b.length]) ((ra0.upd (Upd.alloc _ _ []) (by simp)).upd (Upd.alloc _ _ []) (by simp)) rfl rfl rfl (by simp only [List.length_singleton]; omega) fun u6 H6 D6 hO6 hU6 hD6 => ?_
              have ho6 := hO6.row.one
              have gC : H6.get (Hc.next) = .live (.cells [.string (str nm)] .own) := by rw [hU6.2 Hc.next (by show Hc.next < Hc.next + 2; omega) (fun hh => by have := ltA _ hh; omega), get_alloc, if_neg (by show Hc.next ≠ Hc.next + 1; omega), get_alloc]; exact if_pos rfl
              simp (config := { dsimp := false, maxSteps := 10000000 }) (disch := omega) only [go_sem, reduceIte, Nat.reduceEqDiff, reduceCtorEq, Nat.reduceAdd, Nat.reduceMul, Int.reduceToNat, Int.reduceLE, Int.reduceLT, Int.reduceEq, Int.reduceNe, Nat.reduceLeDiff, Int.reducePow, Nat.reducePow, Nat.reduceLT, Nat.reduceSub, Nat.reduceMod, Nat.reduceDiv, slot_neg, slot_pos, T.ag_3, T.ag_9, T.eb_22, T.eb_23, T.eb_34, T.es_22, T.es_34, T.ez_22, T.ez_23, T.ez_34, T.gf_4, T.gf_5, T.gf_6, T.gf_7, T.gf_8, T.gf_9, T.ib_24, T.ib_3, T.ib_9, T.ii_22, T.ii_23, T.ii_34, T.ii_9, T.ip_24, T.ip_3, T.ip_9, T.pl_32, T.s8_22, T.s8_23, T.s8_34, T.s8_9, T.sl_22, T.sl_23, T.sl_34, T.sl_9, T.st_22, T.st_23, T.st_34, T.st_9, T.un_22, T.un_23, T.un_34, T.un_9, T.zo_32, ho6.1, ho6.2, hoh.1, hoh.2, gC]
              have n6 : Hc.next + 2 ≤ H6.next := hU6.1
              have m6 : ∀ d ∈ D6, d ∈ Da ∨ Hc.next + 2 ≤ d := fun d hd => hD6 d hd
              have rh6 := ((rh0.upd (Upd.alloc _ _ []) (by simp)).upd (Upd.alloc _ _ []) (by simp)).upd hU6 dHa
              refine app_own (E := tE) (ns := [nm]) rh6 rfl rfl rfl (by simp only [List.length_singleton]; omega) fun u7 H7 D7 hO7 hU7 hD7 => ?_
              have ho7 := hO7.row.one
              simp (config := { dsimp := false, maxSteps := 10000000 }) (disch := omega) only [go_sem, reduceIte, Nat.reduceEqDiff, reduceCtorEq, Nat.reduceAdd, Nat.reduceMul, Int.reduceToNat, Int.reduceLE, Int.reduceLT, Int.reduceEq, Int.reduceNe, Nat.reduceLeDiff, Int.reducePow, Nat.reducePow, Nat.reduceLT, Nat.reduceSub, Nat.reduceMod, Nat.reduceDiv, slot_neg, slot_pos, T.ag_3, T.ag_9, T.eb_22, T.eb_23, T.eb_34, T.es_22, T.es_34, T.ez_22, T.ez_23, T.ez_34, T.gf_4, T.gf_5, T.gf_6, T.gf_7, T.gf_8, T.gf_9, T.ib_24, T.ib_3, T.ib_9, T.ii_22, T.ii_23, T.ii_34, T.ii_9, T.ip_24, T.ip_3, T.ip_9, T.pl_32, T.s8_22, T.s8_23, T.s8_34, T.s8_9, T.sl_22, T.sl_23, T.sl_34, T.sl_9, T.st_22, T.st_23, T.st_34, T.st_9, T.un_22, T.un_23, T.un_34, T.un_9, T.zo_32, q0, q7, q13, ho6.1, ho6.2, ho7.1, ho7.2]
              have n7 : H6.next ≤ H7.next := hU7.1
              have m7 : ∀ d ∈ D7, d ∈ Dh ∨ H6.next ≤ d := fun d hd => hD7 d hd
              have d6 : ∀ d ∈ D6, d ∉ Dh := fun d hd hh => by rcases m6 d hd with h9 | h9; exact dAh d h9 hh; have := ltH d hh; omega
              have ra7 := hO6.upd hU7 d6
              have l6 := hO6.lt
              refine ⟨u6, u7, D6, D7, rfl, rfl, NX.of ra7 hO7 (fun d hd => (m6 d hd).imp id fun h9 => by omega) (fun d hd => (m7 d hd).imp id fun h9 => by omega) (fun d hd hh => ?_) (by omega)⟩
              rcases m7 d hd with h9 | h9
              · exact d6 d hh h9
              · have := l6 d hh; omega
          · rintro r5 H5 ⟨av', hv', Da', Dh', p11, p12, p0, p7, p13, p14, p16, p17, hX⟩
            simp (config := { dsimp := false, maxSteps := 10000000 }) (disch := omega) only [go_sem, reduceIte, Nat.reduceEqDiff, reduceCtorEq, Nat.reduceAdd, Nat.reduceMul, Int.reduceToNat, Int.reduceLE, Int.reduceLT, Int.reduceEq, Int.reduceNe, Nat.reduceLeDiff, Int.reducePow, Nat.reducePow, Nat.reduceLT, Nat.reduceSub, Nat.reduceMod, Nat.reduceDiv, slot_neg, slot_pos, T.ag_3, T.ag_9, T.eb_22, T.eb_23, T.eb_34, T.es_22, T.es_34, T.ez_22, T.ez_23, T.ez_34, T.gf_4, T.gf_5, T.gf_6, T.gf_7, T.gf_8, T.gf_9, T.ib_24, T.ib_3, T.ib_9, T.ii_22, T.ii_23, T.ii_34, T.ii_9, T.ip_24, T.ip_3, T.ip_9, T.pl_32, T.s8_22, T.s8_23, T.s8_34, T.s8_9, T.sl_22, T.sl_23, T.sl_34, T.sl_9, T.st_22, T.st_23, T.st_34, T.st_9, T.un_22, T.un_23, T.un_34, T.un_9, T.zo_32, p0, p7, p11, p12, p13, p14, p16, p17]
            have n5 := hX.upd.1
            have kF : ∀ d, d < Hc.next → d ∉ Da → d ∉ Dh → H5.get d = Hc.get d := fun d h1 h2 h3 => hX.upd.2 d h1 fun hh => by
              rcases List.mem_append.1 hh with h9 | h9
              · exact h2 h9
              · exact h3 h9
            have ltW := hOa.lt
            have hD'a : ∀ d ∈ D', d ∉ Da ∧ d ∉ Dh := fun d hd => by
              have h9 := (hDa d hd).1
              refine ⟨fun hh => ?_, fun hh => ?_⟩
              · rcases h9 with h8 | h8
                · exact (hS.dA d hh).2.2.2 h8
                · have := hS.ra.lt d hh; omega
              · rcases h9 with h8 | h8
                · exact (hS.dH d hh).2.2.2.1 h8
                · have := hS.rh.lt d hh; omega
            have hO5 : OwnRow u8E H5 w D' c := (hOb.upd hUc (by simp)).keep n5 fun d hd => kF d (by have := ltW d hd; omega) (hD'a d hd).1 (hD'a d hd).2
            obtain ⟨v9, e9⟩ : ∃ v9 : Value, v9 = .slice (some ⟨H5.next, 0, none⟩) 0 1 := ⟨_, rfl⟩
            have ho9 : OwnRow u8E (H5.alloc (.cells [] .own)) v9 [H5.next] [] := by rw [e9]; exact own_empty rfl
            rw [← e9]
            refine news_row (l := c) (by kernel_rfl) (hO5.upd (Upd.alloc _ _ []) (by simp)).row rfl ?_
            simp (config := { dsimp := false, maxSteps := 10000000 }) (disch := omega) only [go_sem, reduceIte, Nat.reduceEqDiff, reduceCtorEq, Nat.reduceAdd, Nat.reduceMul, Int.reduceToNat, Int.reduceLE, Int.reduceLT, Int.reduceEq, Int.reduceNe, Nat.reduceLeDiff, Int.reducePow, Nat.reducePow, Nat.reduceLT, Nat.reduceSub, Nat.reduceMod, Nat.reduceDiv, slot_neg, slot_pos, T.ag_3, T.ag_9, T.eb_22, T.eb_23, T.eb_34, T.es_22, T.es_34, T.ez_22, T.ez_23, T.ez_34, T.gf_4, T.gf_5, T.gf_6, T.gf_7, T.gf_8, T.gf_9, T.ib_24, T.ib_3, T.ib_9, T.ii_22, T.ii_23, T.ii_34, T.ii_9, T.ip_24, T.ip_3, T.ip_9, T.pl_32, T.s8_22, T.s8_23, T.s8_34, T.s8_9, T.sl_22, T.sl_23, T.sl_34, T.sl_9, T.st_22, T.st_23, T.st_34, T.st_9, T.un_22, T.un_23, T.un_34, T.un_9, T.zo_32]
            refine ⟨flat_one _, app_own (E := u8E) (ns := c) ho9 rfl rfl rfl (by simp only [List.length_nil]; omega) fun u6 H6 D6 hO6 hU6 hD6 => ?_⟩
            have ho6 := hO6.row.one
            have n6 : H5.next + 1 ≤ H6.next := hU6.1
            have m6 : ∀ d ∈ D6, H5.next ≤ d := fun d hd => by
              rcases hD6 d hd with h9 | h9
              · simp at h9; omega
              · have h8 : H5.next + 1 ≤ d := h9
                omega
            rw [List.nil_append] at hO6
            simp (config := { dsimp := false, maxSteps := 10000000 }) (disch := omega) only [go_sem, reduceIte, Nat.reduceEqDiff, reduceCtorEq, Nat.reduceAdd, Nat.reduceMul, Int.reduceToNat, Int.reduceLE, Int.reduceLT, Int.reduceEq, Int.reduceNe, Nat.reduceLeDiff, Int.reducePow, Nat.reducePow, Nat.reduceLT, Nat.reduceSub, Nat.reduceMod, Nat.reduceDiv, slot_neg, slot_pos, T.ag_3, T.ag_9, T.eb_22, T.eb_23, T.eb_34, T.es_22, T.es_34, T.ez_22, T.ez_23, T.ez_34, T.gf_4, T.gf_5, T.gf_6, T.gf_7, T.gf_8, T.gf_9, T.ib_24, T.ib_3, T.ib_9, T.ii_22, T.ii_23, T.ii_34, T.ii_9, T.ip_24, T.ip_3, T.ip_9, T.pl_32, T.s8_22, T.s8_23, T.s8_34, T.s8_9, T.sl_22, T.sl_23, T.sl_34, T.sl_9, T.st_22, T.st_23, T.st_34, T.st_9, T.un_22, T.un_23, T.un_34, T.un_9, T.zo_32, p0, p7, p11, p12, p13, p14, p16, p17, ho6.1, ho6.2, wi]
            have k56 : ∀ d, d < H5.next → H6.get d = H5.get d := fun d h1 => by
              rw [hU6.2 d (by show d < H5.next + 1; omega) (by simp; omega), get_alloc, if_neg (by omega)]
            have kk : ∀ d, d < Hc.next → d ∉ Da → d ∉ Dh → H6.get d = Hc.get d := fun d h1 h2 h3 => (k56 d (by omega)).trans (kF d h1 h2 h3)
            have ltT := hTa.lt
            have hM'a : ∀ d ∈ M', d ∉ Da ∧ d ∉ Dh := fun d hd => by
              refine ⟨fun hh => ?_, fun hh => ?_⟩
              · rcases hMa d hd with h8 | h8
                · exact (hS.dA d hh).2.2.1 h8
                · have := hS.ra.lt d hh; omega
              · rcases hMa d hd with h8 | h8
                · exact (hS.dH d hh).2.2.1 h8
                · have := hS.rh.lt d hh; omega
            have hptl : pt < H4.next := hS.tab.1
            have hpA : pt ∉ Da ∧ pt ∉ Dh := ⟨fun hh => (hS.dA pt hh).2.1 rfl, fun hh => (hS.dH pt hh).2.1 rfl⟩
            have ltA4 := hS.ra.lt
            have ltH4 := hS.rh.lt
            have ltM4 := hS.rm.lt
            have ltA5 := hX.ra.lt
            have ltH5 := hX.rh.lt
            have lt2 := hO2.lt
            have hM'1 : ∀ d ∈ M', H1.next ≤ d := fun d hd => by
              rcases hMa d hd with h8 | h8
              · exact (hS.hM d h8).1
              · omega
            have hMn : ∀ d, d ∉ M → d < H4.next → d ∉ M' := fun d h1 h2 hh => by
              rcases hMa d hh with h8 | h8
              · exact h1 h8
              · omega
            have hD2a : ∀ d ∈ D2, d ∉ Da ∧ d ∉ Dh := fun d hd => by
              rcases hD2 d hd with h8 | h8
              · exact ⟨(hS.dM d h8).2.2.2.1, (hS.dM d h8).2.2.2.2⟩
              · exact ⟨fun hh => by have := ltA4 d hh; omega, fun hh => by have := ltH4 d hh; omega⟩
            have hdl := docP_len ps m b
            have hpc := count_le ps
            have hpn := name_len hn
            have hNS : NS H1 H6 pt (i + 1) M' D6 Da' Dh' D2 w2 u6 av' hv' (putP t b ps).1 (docP m b ps).1 c (at_ ++ [b.length]) (had ++ [nm]) := by
              refine ⟨?_, hO6, ?_, ?_, ?_, ?_, ?_, ?_, ?_, hS.hp, ?_, ?_, hsame2, hgood, hgot, ?_, ?_, ?_⟩
              · exact ((hTa.upd hUb (by simp) (by simp)).upd hUc (by simp) (by simp)).keep (by omega) (kk pt (by omega) hpA.1 hpA.2) fun d hd => kk d (by have := ltT d hd; omega) (hM'a d hd).1 (hM'a d hd).2
              · exact hX.ra.keep (by omega) fun d hd => k56 d (ltA5 d hd)
              · exact hX.rh.keep (by omega) fun d hd => k56 d (ltH5 d hd)
              · exact (hO2.upd hUc (by simp)).keep (by omega) fun d hd => kk d (by have := lt2 d hd; omega) (hD2a d hd).1 (hD2a d hd).2
              · exact fun d hd => ⟨by have := m6 d hd; omega, by have := m6 d hd; omega, fun hh => by have := m6 d hd; have := ltT d hh; omega⟩
              · refine fun d hd => ?_
                have h7 := ltA5 d hd
                have h6 : d ∉ D6 := fun hh => by have := m6 d hh; omega
                rcases hX.da d hd with h8 | h8
                · exact ⟨(hS.dA d h8).1, (hS.dA d h8).2.1, hMn d (hS.dA d h8).2.2.1 (ltA4 d h8), h6⟩
                · exact ⟨by omega, by omega, fun hh => by have := ltT d hh; omega, h6⟩
              · refine fun d hd => ?_
                have h7 := ltH5 d hd
                have h6 : d ∉ D6 := fun hh => by have := m6 d hh; omega
                rcases hX.dh d hd with h8 | h8
                · exact ⟨(hS.dH d h8).1, (hS.dH d h8).2.1, hMn d (hS.dH d h8).2.2.1 (ltH4 d h8), h6, hX.dis d hd⟩
                · exact ⟨by omega, by omega, fun hh => by have := ltT d hh; omega, h6, hX.dis d hd⟩
              · refine fun d hd => ?_
                have h7 := lt2 d hd
                have h6 : d ∉ D6 := fun hh => by have := m6 d hh; omega
                have hA' : d ∉ Da' := fun hh => by
                  rcases hX.da d hh with h9 | h9
                  · exact (hD2a d hd).1 h9
                  · omega
                have hH' : d ∉ Dh' := fun hh => by
                  rcases hX.dh d hh with h9 | h9
                  · exact (hD2a d hd).2 h9
                  · omega
                rcases hD2 d hd with h8 | h8
                · exact ⟨(hS.dM d h8).1, hMn d (hS.dM d h8).2.1 (ltM4 d h8), h6, hA', hH'⟩
                · exact ⟨by omega, fun hh => by have := ltT d hh; omega, h6, hA', hH'⟩
              · exact fun d hd => ⟨hM'1 d hd, by have := ltT d hd; omega⟩
              · refine ⟨by omega, fun d hd _ => ?_⟩
                rw [kk d (by omega) (fun hh => by have := (hS.dA d hh).1; omega) (fun hh => by have := (hS.dH d hh).1; omega), hUc.2 d (by omega) (by simp), hUb.2 d (by omega) (by simp), hUa.2 d (by omega) (nF d (by have := hS.hp; omega) (fun hh => by have := (hS.hM d hh).1; omega) (fun hh => by have := (hS.dB d hh).1; omega))]
                exact hS.hU.2 d hd (by simp)
              · rw [List.length_append, List.length_singleton]; have := hS.la; omega
              · omega
              · omega
            exact ⟨⟨i + 1, M', D6, Da', Dh', D2, w2, u6, av', hv', _, _, c, _, _, hNS, by omega, by omega, rfl, rfl, rfl, rfl, rfl, rfl⟩, by rw [q13]; simp; omega⟩
      · have c2 : ¬ ((i : Int) < (le.length : Int) ∧ (i : Int) < 40) := by omega
        by_cases c3 : (i : Int) < (le.length : Int)
        · have c4 : ((i : Int) < 40) = False := eq_false (by omega)
          simp (config := { dsimp := false, maxSteps := 10000000 }) (disch := omega) only [go_sem, reduceIte, Nat.reduceEqDiff, reduceCtorEq, Nat.reduceAdd, Nat.reduceMul, Int.reduceToNat, Int.reduceLE, Int.reduceLT, Int.reduceEq, Int.reduceNe, Nat.reduceLeDiff, Int.reducePow, Nat.reducePow, Nat.reduceLT, Nat.reduceSub, Nat.reduceMod, Nat.reduceDiv, slot_neg, slot_pos, T.ag_3, T.ag_9, T.eb_22, T.eb_23, T.eb_34, T.es_22, T.es_34, T.ez_22, T.ez_23, T.ez_34, T.gf_4, T.gf_5, T.gf_6, T.gf_7, T.gf_8, T.gf_9, T.ib_24, T.ib_3, T.ib_9, T.ii_22, T.ii_23, T.ii_34, T.ii_9, T.ip_24, T.ip_3, T.ip_9, T.pl_32, T.s8_22, T.s8_23, T.s8_34, T.s8_9, T.sl_22, T.sl_23, T.sl_34, T.sl_9, T.st_22, T.st_23, T.st_34, T.st_9, T.un_22, T.un_23, T.un_34, T.un_9, T.zo_32, q0, q7, q8, q9, q10, q11, q12, q13, c3, c4, len_in hr4]
          exact ⟨i, M, Db, Da, Dh, Dm, mv, bv, av, hv, t, m, b, at_, had, hS, hi40, rfl, rfl, rfl⟩
        · have c3' := eq_false c3
          simp (config := { dsimp := false, maxSteps := 10000000 }) (disch := omega) only [go_sem, reduceIte, Nat.reduceEqDiff, reduceCtorEq, Nat.reduceAdd, Nat.reduceMul, Int.reduceToNat, Int.reduceLE, Int.reduceLT, Int.reduceEq, Int.reduceNe, Nat.reduceLeDiff, Int.reducePow, Nat.reducePow, Nat.reduceLT, Nat.reduceSub, Nat.reduceMod, Nat.reduceDiv, slot_neg, slot_pos, T.ag_3, T.ag_9, T.eb_22, T.eb_23, T.eb_34, T.es_22, T.es_34, T.ez_22, T.ez_23, T.ez_34, T.gf_4, T.gf_5, T.gf_6, T.gf_7, T.gf_8, T.gf_9, T.ib_24, T.ib_3, T.ib_9, T.ii_22, T.ii_23, T.ii_34, T.ii_9, T.ip_24, T.ip_3, T.ip_9, T.pl_32, T.s8_22, T.s8_23, T.s8_34, T.s8_9, T.sl_22, T.sl_23, T.sl_34, T.sl_9, T.st_22, T.st_23, T.st_34, T.st_9, T.un_22, T.un_23, T.un_34, T.un_9, T.zo_32, q0, q7, q8, q9, q10, q11, q12, q13, c3', len_in hr4]
          exact ⟨i, M, Db, Da, Dh, Dm, mv, bv, av, hv, t, m, b, at_, had, hS, hi40, rfl, rfl, rfl⟩
  rintro r H4 ⟨i, M, Db, Da, Dh, Dm, mv, bv, av, hv, t, m, b, at_, had, hS, hi40, q9, q11, q12⟩
  have hbb := hS.lb
  have haa := hS.la
  have hgl := hS.got.1
  have hra := hS.ra.row
  have hrh := hS.rh.row
  have hrb := hS.rb.row
  have ltb : ∀ A n st, bv = .slice (some A) n st → A.block < H4.next := by
    intro A n st e
    rcases hS.rb with ⟨e2, _⟩ | ⟨q, off, vs, e2, hq, e3, _⟩
    · rw [e2] at e; cases e
    · rw [e3] at e; cases e; exact hq
  have hob := hrb.one
  refine CodeH.of_vc [] hm (by kernel_rfl) ?_
  simp (config := { dsimp := false, maxSteps := 10000000 }) (disch := omega) only [go_sem, reduceIte, Nat.reduceEqDiff, reduceCtorEq, Nat.reduceAdd, Nat.reduceMul, Int.reduceToNat, Int.reduceLE, Int.reduceLT, Int.reduceEq, Int.reduceNe, Nat.reduceLeDiff, Int.reducePow, Nat.reducePow, Nat.reduceLT, Nat.reduceSub, Nat.reduceMod, Nat.reduceDiv, slot_neg, slot_pos, T.ag_3, T.ag_9, T.eb_22, T.eb_23, T.eb_34, T.es_22, T.es_34, T.ez_22, T.ez_23, T.ez_34, T.gf_4, T.gf_5, T.gf_6, T.gf_7, T.gf_8, T.gf_9, T.ib_24, T.ib_3, T.ib_9, T.ii_22, T.ii_23, T.ii_34, T.ii_9, T.ip_24, T.ip_3, T.ip_9, T.pl_32, T.s8_22, T.s8_23, T.s8_34, T.s8_9, T.sl_22, T.sl_23, T.sl_34, T.sl_9, T.st_22, T.st_23, T.st_34, T.st_9, T.un_22, T.un_23, T.un_34, T.un_9, T.zo_32, q9, q11, q12]
  refine loop_intro [] hm (fun r H => ∃ j : Nat, j ≤ at_.length ∧ r 9 = bv ∧ r 11 = av ∧ r 12 = hv ∧ r 20 = .int .i64 j ∧ Upd H4 H []) (fun r _ => match r 20 with | .int _ i => at_.length - i.toNat | _ => 0) ?_ ?_
  · exact ⟨0, by omega, by simp [upd, q9], by simp [upd, q11], by simp [upd, q12], by simp [upd], Upd.refl _ _⟩
  · rintro r H5 ⟨j, hj, q9, q11, q12, q20, hU5⟩
    by_cases hjl : j < at_.length
    · have c1 : ((j : Int) < (at_.length : Int)) = True := eq_true (by omega)
      have wj : IntKind.i64.wrap ((j : Int) + 1) = ((j + 1 : Nat) : Int) := by rw [i64wrap] <;> omega
      have hx : at_[j]? = some at_[j] := List.getElem?_eq_getElem hjl
      have hy : had[j]? = some had[j] := List.getElem?_eq_getElem (by omega)
      have hget := hS.got.get hx hy
      rcases hra with ⟨_, h0⟩ | ⟨q, off, vs, o, e1, hg, hR⟩
      · rw [h0] at hjl; simp at hjl
      rcases hrh with ⟨_, h0⟩ | ⟨qh, offh, vsh, oh, e1h, hgh, hRh⟩
      · rw [h0, List.length_nil] at hgl; omega
      have hcell := hR.cell hx (j := 0) Nat.zero_lt_one
      have hcellh := hRh.cell hy (j := 0) Nat.zero_lt_one
      rw [show niE.k = 1 from rfl, Nat.mul_one, Nat.add_zero] at hcell
      rw [show tE.k = 1 from rfl, Nat.mul_one, Nat.add_zero] at hcellh
      rw [show niE.k = 1 from rfl] at e1
      rw [show tE.k = 1 from rfl] at e1h
      generalize at_[j] = a at *
      generalize had[j] = sj at *
      replace hcell : vs[off + j]? = some (.int .i64 (a : Int)) := hcell
      replace hcellh : vsh[offh + j]? = some (.string (str sj)) := hcellh
      have hqn : q < H4.next := by
        rcases hS.ra with ⟨e2, _⟩ | ⟨q', off', vs', e2, hq, e3, _⟩
        · rw [e2] at e1; cases e1
        · rw [e3] at e1; cases e1; exact hq
      have hqhn : qh < H4.next := by
        rcases hS.rh with ⟨e2, _⟩ | ⟨q', off', vs', e2, hq, e3, _⟩
        · rw [e2] at e1h; cases e1h
        · rw [e3] at e1h; cases e1h; exact hq
      have hg5 := (hU5.2 q hqn (by simp)).trans hg
      simp (config := { dsimp := false, maxSteps := 10000000 }) (disch := omega) only [go_sem, reduceIte, Nat.reduceEqDiff, reduceCtorEq, Nat.reduceAdd, Nat.reduceMul, Int.reduceToNat, Int.reduceLE, Int.reduceLT, Int.reduceEq, Int.reduceNe, Nat.reduceLeDiff, Int.reducePow, Nat.reducePow, Nat.reduceLT, Nat.reduceSub, Nat.reduceMod, Nat.reduceDiv, slot_neg, slot_pos, T.ag_3, T.ag_9, T.eb_22, T.eb_23, T.eb_34, T.es_22, T.es_34, T.ez_22, T.ez_23, T.ez_34, T.gf_4, T.gf_5, T.gf_6, T.gf_7, T.gf_8, T.gf_9, T.ib_24, T.ib_3, T.ib_9, T.ii_22, T.ii_23, T.ii_34, T.ii_9, T.ip_24, T.ip_3, T.ip_9, T.pl_32, T.s8_22, T.s8_23, T.s8_34, T.s8_9, T.sl_22, T.sl_23, T.sl_34, T.sl_9, T.st_22, T.st_23, T.st_34, T.st_9, T.un_22, T.un_23, T.un_34, T.un_9, T.zo_32, q9, q11, q12, q20, c1, e1, hg5, hcell]
      refine (Get_ph H5 bv b (a : Int) (hrb.upd fun A n st e => hU5.2 _ (ltb A n st e) (by simp)) (fun A n st e => Nat.lt_of_lt_of_le (ltb A n st e) hU5.1) (by omega)).mono fun u H6 ⟨hu, hU6⟩ => ?_
      rw [hget] at hu
      subst hu
      have hU46 := hU5.trans hU6 (by simp)
      have hg6 := (hU46.2 q hqn (by simp)).trans hg
      have hgh6 := (hU46.2 qh hqhn (by simp)).trans hgh
      have cj : ((j : Int) < (had.length : Int)) = True := eq_true (by omega)
      by_cases hj1 : j + 1 < at_.length
      · have c2 : (((j + 1 : Nat) : Int) < (at_.length : Int)) = True := eq_true (by omega)
        have hx1 : at_[j + 1]? = some at_[j + 1] := List.getElem?_eq_getElem hj1
        have hcell1 := hR.cell hx1 (j := 0) Nat.zero_lt_one
        rw [show niE.k = 1 from rfl, Nat.mul_one, Nat.add_zero] at hcell1
        have hgd : at_.getD (j + 1) b.length = at_[j + 1] := by simp [List.getElem?_eq_getElem hj1]
        rw [hgd]
        generalize at_[j + 1] = a1 at *
        replace hcell1 : vs[off + (j + 1)]? = some (.int .i64 (a1 : Int)) := hcell1
        simp (config := { dsimp := false, maxSteps := 10000000 }) (disch := omega) only [go_sem, reduceIte, Nat.reduceEqDiff, reduceCtorEq, Nat.reduceAdd, Nat.reduceMul, Int.reduceToNat, Int.reduceLE, Int.reduceLT, Int.reduceEq, Int.reduceNe, Nat.reduceLeDiff, Int.reducePow, Nat.reducePow, Nat.reduceLT, Nat.reduceSub, Nat.reduceMod, Nat.reduceDiv, slot_neg, slot_pos, T.ag_3, T.ag_9, T.eb_22, T.eb_23, T.eb_34, T.es_22, T.es_34, T.ez_22, T.ez_23, T.ez_34, T.gf_4, T.gf_5, T.gf_6, T.gf_7, T.gf_8, T.gf_9, T.ib_24, T.ib_3, T.ib_9, T.ii_22, T.ii_23, T.ii_34, T.ii_9, T.ip_24, T.ip_3, T.ip_9, T.pl_32, T.s8_22, T.s8_23, T.s8_34, T.s8_9, T.sl_22, T.sl_23, T.sl_34, T.sl_9, T.st_22, T.st_23, T.st_34, T.st_9, T.un_22, T.un_23, T.un_34, T.un_9, T.zo_32, q9, q11, q12, q20, c1, e1, hg6, wj, c2, hcell1, e1h, hgh6, hcellh, cj, len_in hrb]
        exact ⟨⟨j + 1, hjl, rfl, hU46⟩, by omega⟩
      · have c2 : (((j + 1 : Nat) : Int) < (at_.length : Int)) = False := eq_false (by omega)
        have hgd : at_.getD (j + 1) b.length = b.length := by simp [List.getElem?_eq_none (show at_.length ≤ j + 1 from by omega)]
        rw [hgd]
        simp (config := { dsimp := false, maxSteps := 10000000 }) (disch := omega) only [go_sem, reduceIte, Nat.reduceEqDiff, reduceCtorEq, Nat.reduceAdd, Nat.reduceMul, Int.reduceToNat, Int.reduceLE, Int.reduceLT, Int.reduceEq, Int.reduceNe, Nat.reduceLeDiff, Int.reducePow, Nat.reducePow, Nat.reduceLT, Nat.reduceSub, Nat.reduceMod, Nat.reduceDiv, slot_neg, slot_pos, T.ag_3, T.ag_9, T.eb_22, T.eb_23, T.eb_34, T.es_22, T.es_34, T.ez_22, T.ez_23, T.ez_34, T.gf_4, T.gf_5, T.gf_6, T.gf_7, T.gf_8, T.gf_9, T.ib_24, T.ib_3, T.ib_9, T.ii_22, T.ii_23, T.ii_34, T.ii_9, T.ip_24, T.ip_3, T.ip_9, T.pl_32, T.s8_22, T.s8_23, T.s8_34, T.s8_9, T.sl_22, T.sl_23, T.sl_34, T.sl_9, T.st_22, T.st_23, T.st_34, T.st_9, T.un_22, T.un_23, T.un_34, T.un_9, T.zo_32, q9, q11, q12, q20, c1, e1, hg6, wj, c2, e1h, hgh6, hcellh, cj, len_in hrb]
        exact ⟨⟨j + 1, hjl, rfl, hU46⟩, by omega⟩
    · obtain rfl : j = at_.length := by omega
      have c1 : ((at_.length : Int) < (at_.length : Int)) = False := eq_false (by omega)
      simp (config := { dsimp := false, maxSteps := 10000000 }) (disch := omega) only [go_sem, reduceIte, Nat.reduceEqDiff, reduceCtorEq, Nat.reduceAdd, Nat.reduceMul, Int.reduceToNat, Int.reduceLE, Int.reduceLT, Int.reduceEq, Int.reduceNe, Nat.reduceLeDiff, Int.reducePow, Nat.reducePow, Nat.reduceLT, Nat.reduceSub, Nat.reduceMod, Nat.reduceDiv, slot_neg, slot_pos, T.ag_3, T.ag_9, T.eb_22, T.eb_23, T.eb_34, T.es_22, T.es_34, T.ez_22, T.ez_23, T.ez_34, T.gf_4, T.gf_5, T.gf_6, T.gf_7, T.gf_8, T.gf_9, T.ib_24, T.ib_3, T.ib_9, T.ii_22, T.ii_23, T.ii_34, T.ii_9, T.ip_24, T.ip_3, T.ip_9, T.pl_32, T.s8_22, T.s8_23, T.s8_34, T.s8_9, T.sl_22, T.sl_23, T.sl_34, T.sl_9, T.st_22, T.st_23, T.st_34, T.st_9, T.un_22, T.un_23, T.un_34, T.un_9, T.zo_32, q9, q11, q12, q20, c1, len_in hra]
end Ph
