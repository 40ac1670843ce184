import Derived.Test.YtcbgjjbbeeoekaaDoorM4
set_option maxRecDepth 100000
set_option maxHeartbeats 4000000
set_option linter.unusedSimpArgs false
set_option linter.unusedVariables false
namespace Ph
open Go Go.Proofs
attribute [local irreducible] Value.cells
attribute [local go_sem ↓] y_move y_assign y_pick y_nil y_bin y_un y_fa y_field y_ext y_ia y_ix y_slice y_build y_mf y_rg y_nx y_en y_mm y_lk y_mu y_del y_load y_len y_cap y_min y_max y_conv y_bs y_mk y_alloc y_box y_store y_clear y_app y_callf y_callt s_move s_assign s_pick s_nil s_bin s_un s_fa s_field s_ext s_ia s_ix s_slice s_conv s_build s_bs s_mf s_alloc s_box s_rg s_nx s_en s_mm s_lk s_mu s_del s_load s_store s_len s_clear s_cap s_min s_max s_app s_call q_call q_move q_assign q_pick q_nil q_bin q_un q_fa q_field q_ext q_ia q_ix q_slice q_conv q_build q_mf q_lk q_load q_len q_cap q_min q_max l_nil l_move l_assign l_pick l_nilc l_bin l_un l_fa l_field l_ext l_ia l_ix l_slice l_conv l_build l_mf l_lk l_load l_len l_cap l_min l_max l_call put_eq putN_eq o_nil o_plain o_gate v_nil v_plain v_gate vc_skip vc_region vc_seq vc_cond vc_block vc_loop vc_rf vc_exit vc_ret blk_normal blk_ret blk_exit on_normal on_ret on_exit vc_drawn draw_q s_mk l_bs l_mk l_rg l_nx l_en l_mm l_mu l_del l_alloc l_box l_store l_app l_clear pl_done pl_takeS pl_take pl_alt pl_stop one_plain one_gate
attribute [local go_sem] clear_nil clear_sl onAgg_a onTuple_t onFn_f onFn_y onFunc_f c_int c_nil c_sl c_str sl_sl sl_nil sl_str ix_str ix_agg n_nil n_sl n_str app_eq app_eqZ k_nil k_sl cap_n len_sl len_str len_mn len_m onMap_m onIter_i rg_n rg_m nx_p en_p lk_n lk_m up_m setM_n setM_s del_n del_m kt_s kt_i upd_some upd_none ev_tmp ev_const ev_func rd_some gdst_eq otmp_t otmp_c get_put get_alloc next_put next_alloc get_app next_app init_a resV1 resV2 onPtr_ptr onBool_b onInt_i onSlice_s onSome_s onCells_c lett_eq gate_tt gate_tf gate_ff gate_ft gate_dt gate_df also_eq bin un minmax io_none io_some bo_none bo_some partOf List.getElem?_cons_zero List.getElem?_cons_succ List.getElem?_toArray Option.map_some Option.map_none Option.bind_some ne_eq not_true_eq_false not_false_eq_true false_implies true_implies and_true true_and and_self Bool.false_eq_true Nat.zero_add Nat.add_zero List.size_toArray List.length_cons List.length_nil List.map_toArray List.map_cons List.map_nil Array.getD_eq_getD_getElem? Option.getD_some Bool.not_true Bool.not_false Bool.not_eq_true Option.isNone_some Option.isNone_none List.append_toArray List.append_nil List.nil_append List.cons_append decide_true decide_false in_nil in_cons Bool.and_false Bool.and_true Bool.or_false Bool.true_or Bool.false_or get_mask next_mask get_unmask next_unmask ac_move ac_assign ac_pick ac_nil ac_bin ac_un ac_fa ac_field ac_ext ac_ia ac_ix ac_slice ac_build ac_mf ac_call ac_len ac_lk ac_cap ac_min ac_max accM_m accM_n accM_s accM_t ac_load ac_conv accP_p accS_s accS_n accS_i accS_t fixed_ro fixed_lock fixed_own get_ro next_ro lock_live' lock_cells List.mem_cons List.not_mem_nil or_false false_or or_true true_or and_false false_and IntKind.bits Int.natCast_zero Int.natCast_one size_str data_str list_str mk_str ext_str app_str bytes_str w_byte w_byteu Int.toNat_natCast Int.toNat_zero Int.toNat_one Nat.sub_zero ge_iff_le gt_iff_lt Nat.le_refl Int.le_refl List.drop_zero Int.ofNat_eq_natCast Int.natCast_nonneg Int.sub_zero oc_int oc_bool oc_str oc_ptr oc_sl oc_map oc_func List.set_cons_zero List.set_cons_succ Nat.mul_one List.all_cons List.all_nil Bool.and_self res_nil res_tmp res_cell tup_one tup_two tup_nil fill_nil repl_zero cells_agg List.append_eq List.toList_toArray Nat.zero_mul Nat.one_mul repl_one repl_two onSome_build fill_cons onSome_lit splice_eq cells_int cells_bool cells_str cells_ptr cells_sl cells_map cells_func loadK_n loadK_s load_k storeK_n storeK_s store_k all_arr List.take_zero List.take_succ_cons List.drop_succ_cons List.take_nil List.drop_nil lk_own lk_ro lk_lock lk_lk fixed_lk gate_nt gate_nf gate3_b gate3_u undef Bool.true_and Bool.false_and nx_l nx_r nx_lt put_put resV0
attribute [local go_sem] str_inj size_str
/-! Is a record's data right? -/
theorem txt_step {d : List UInt8} {i : Nat} (h : i < d.length) : txtE d i = txtE d (i + 1 + (d.getD i 0).toNat) := by rw [txtE, if_pos h]
theorem txt_end {d : List UInt8} {i : Nat} (h : ¬ i < d.length) : txtE d i = i := by rw [txtE, if_neg h]
theorem txt_ge (d : List UInt8) : ∀ n i, d.length - i ≤ n → i ≤ txtE d i := by
  intro n
  induction n with
  | zero => intro i hi; rw [txt_end (by omega)]; exact Nat.le_refl _
  | succ n ih =>
    intro i hi
    by_cases h : i < d.length
    · rw [txt_step h]; exact Nat.le_trans (by omega) (ih _ (by omega))
    · rw [txt_end h]; exact Nat.le_refl _
theorem txt_pos {d : List UInt8} (h : d ≠ []) : 0 < txtE d 0 := by
  have hl : 0 < d.length := by cases d with | nil => exact absurd rfl h | cons => simp
  rw [txt_step hl]
  have := txt_ge d d.length (0 + 1 + (d.getD 0 0).toNat) (by omega)
  omega
theorem row_drop {h : Heap} {q off : Nat} {vs : List Value} {o : Own} {b : List UInt8} (a : Nat) (hg : h.get q = .live (.cells vs o)) (hR : RowV u8E vs off b) (ha : a ≤ b.length) : RowIn u8E h (.slice (some ⟨q, off + a, none⟩) (b.length - a) 1) (b.drop a) :=
  .inr ⟨q, off + a * 1, vs, o, by rw [List.length_drop, Nat.mul_one]; rfl, hg, hR.drop a ha⟩
theorem rightData_ph (h : Heap) (k : Int) (v : Value) (d : List UInt8) (hr : RowIn u8E h v d) (hlt : ∀ A n st, v = .slice (some A) n st → A.block < h.next) (hd : d.length ≤ 1000) : @CallsH Tryd.prog 14 #[.int .i64 k, v] h ⟨fun u H => u = .bool (rightD k d) ∧ Upd h H []⟩ := by
  have ho := hr.one
  have hpl := plainN_le d
  unfold rightD
  by_cases k1 : k = 1
  · subst k1
    (refine calls_of_vc [] hm Tryd.func14 rfl (ts := [4]) rfl (by kernel_rfl) (by simp) ?_; simp (config := { dsimp := false, maxSteps := 10000000 }) (disch := omega) only [go_sem, reduceIte, Nat.reduceEqDiff, reduceCtorEq, Nat.reduceAdd, Nat.reduceMul, Int.reduceToNat, Int.reduceLE, Int.reduceLT, Int.reduceEq, Int.reduceNe, Nat.reduceLeDiff, Int.reducePow, Nat.reducePow, Nat.reduceLT, Nat.reduceSub, Nat.reduceMod, Nat.reduceDiv, slot_neg, slot_pos, T.ag_5, T.es_32, T.gf_25, T.ib_3, T.ii_3, T.ii_32, T.ii_5, T.ip_3, T.s8_3, T.s8_32, T.s8_5, T.sl_3, T.sl_32, T.sl_5, T.st_3, T.st_32, T.st_5, T.un_3, T.un_32, T.un_5, init_a, ho.1, ho.2, len_in hr])
    exact ⟨by simp; omega, Upd.refl _ _⟩
  rw [if_neg k1]
  have f1 := eq_false k1
  by_cases k28 : k = 28
  · subst k28
    (refine calls_of_vc [] hm Tryd.func14 rfl (ts := [4]) rfl (by kernel_rfl) (by simp) ?_; simp (config := { dsimp := false, maxSteps := 10000000 }) (disch := omega) only [go_sem, reduceIte, Nat.reduceEqDiff, reduceCtorEq, Nat.reduceAdd, Nat.reduceMul, Int.reduceToNat, Int.reduceLE, Int.reduceLT, Int.reduceEq, Int.reduceNe, Nat.reduceLeDiff, Int.reducePow, Nat.reducePow, Nat.reduceLT, Nat.reduceSub, Nat.reduceMod, Nat.reduceDiv, slot_neg, slot_pos, T.ag_5, T.es_32, T.gf_25, T.ib_3, T.ii_3, T.ii_32, T.ii_5, T.ip_3, T.s8_3, T.s8_32, T.s8_5, T.sl_3, T.sl_32, T.sl_5, T.st_3, T.st_32, T.st_5, T.un_3, T.un_32, T.un_5, init_a, ho.1, ho.2, len_in hr])
    exact ⟨by simp; omega, Upd.refl _ _⟩
  rw [if_neg k28]
  have f28 := eq_false k28
  by_cases k25 : k = 2 ∨ k = 5
  · rw [if_pos k25]
    by_cases h0 : 0 < d.length
    · have c0 : ((0 : Int) < (d.length : Int)) = True := eq_true (by omega)
      rcases k25 with k2 | k5
      · subst k2
        (refine calls_of_vc [] hm Tryd.func14 rfl (ts := [4]) rfl (by kernel_rfl) (by simp) ?_; simp (config := { dsimp := false, maxSteps := 10000000 }) (disch := omega) only [go_sem, reduceIte, Nat.reduceEqDiff, reduceCtorEq, Nat.reduceAdd, Nat.reduceMul, Int.reduceToNat, Int.reduceLE, Int.reduceLT, Int.reduceEq, Int.reduceNe, Nat.reduceLeDiff, Int.reducePow, Nat.reducePow, Nat.reduceLT, Nat.reduceSub, Nat.reduceMod, Nat.reduceDiv, slot_neg, slot_pos, T.ag_5, T.es_32, T.gf_25, T.ib_3, T.ii_3, T.ii_32, T.ii_5, T.ip_3, T.s8_3, T.s8_32, T.s8_5, T.sl_3, T.sl_32, T.sl_5, T.st_3, T.st_32, T.st_5, T.un_3, T.un_32, T.un_5, init_a, ho.1, ho.2, len_in hr, c0])
        refine (plain_ph h v d hr hlt (by omega)).mono fun u H ⟨hu, hU⟩ => ?_
        subst hu
        simp (config := { dsimp := false, maxSteps := 10000000 }) (disch := omega) only [go_sem, reduceIte, Nat.reduceEqDiff, reduceCtorEq, Nat.reduceAdd, Nat.reduceMul, Int.reduceToNat, Int.reduceLE, Int.reduceLT, Int.reduceEq, Int.reduceNe, Nat.reduceLeDiff, Int.reducePow, Nat.reducePow, Nat.reduceLT, Nat.reduceSub, Nat.reduceMod, Nat.reduceDiv, slot_neg, slot_pos, T.ag_5, T.es_32, T.gf_25, T.ib_3, T.ii_3, T.ii_32, T.ii_5, T.ip_3, T.s8_3, T.s8_32, T.s8_5, T.sl_3, T.sl_32, T.sl_5, T.st_3, T.st_32, T.st_5, T.un_3, T.un_32, T.un_5, len_in hr]
        exact ⟨congrArg Value.bool (decide_eq_decide.2 (by omega)), hU⟩
      · subst k5
        (refine calls_of_vc [] hm Tryd.func14 rfl (ts := [4]) rfl (by kernel_rfl) (by simp) ?_; simp (config := { dsimp := false, maxSteps := 10000000 }) (disch := omega) only [go_sem, reduceIte, Nat.reduceEqDiff, reduceCtorEq, Nat.reduceAdd, Nat.reduceMul, Int.reduceToNat, Int.reduceLE, Int.reduceLT, Int.reduceEq, Int.reduceNe, Nat.reduceLeDiff, Int.reducePow, Nat.reducePow, Nat.reduceLT, Nat.reduceSub, Nat.reduceMod, Nat.reduceDiv, slot_neg, slot_pos, T.ag_5, T.es_32, T.gf_25, T.ib_3, T.ii_3, T.ii_32, T.ii_5, T.ip_3, T.s8_3, T.s8_32, T.s8_5, T.sl_3, T.sl_32, T.sl_5, T.st_3, T.st_32, T.st_5, T.un_3, T.un_32, T.un_5, init_a, ho.1, ho.2, len_in hr, c0])
        refine (plain_ph h v d hr hlt (by omega)).mono fun u H ⟨hu, hU⟩ => ?_
        subst hu
        simp (config := { dsimp := false, maxSteps := 10000000 }) (disch := omega) only [go_sem, reduceIte, Nat.reduceEqDiff, reduceCtorEq, Nat.reduceAdd, Nat.reduceMul, Int.reduceToNat, Int.reduceLE, Int.reduceLT, Int.reduceEq, Int.reduceNe, Nat.reduceLeDiff, Int.reducePow, Nat.reducePow, Nat.reduceLT, Nat.reduceSub, Nat.reduceMod, Nat.reduceDiv, slot_neg, slot_pos, T.ag_5, T.es_32, T.gf_25, T.ib_3, T.ii_3, T.ii_32, T.ii_5, T.ip_3, T.s8_3, T.s8_32, T.s8_5, T.sl_3, T.sl_32, T.sl_5, T.st_3, T.st_32, T.st_5, T.un_3, T.un_32, T.un_5, len_in hr]
        exact ⟨congrArg Value.bool (decide_eq_decide.2 (by omega)), hU⟩
    · have c0 : ((0 : Int) < (d.length : Int)) = False := eq_false (by omega)
      rcases k25 with k2 | k5
      · subst k2
        (refine calls_of_vc [] hm Tryd.func14 rfl (ts := [4]) rfl (by kernel_rfl) (by simp) ?_; simp (config := { dsimp := false, maxSteps := 10000000 }) (disch := omega) only [go_sem, reduceIte, Nat.reduceEqDiff, reduceCtorEq, Nat.reduceAdd, Nat.reduceMul, Int.reduceToNat, Int.reduceLE, Int.reduceLT, Int.reduceEq, Int.reduceNe, Nat.reduceLeDiff, Int.reducePow, Nat.reducePow, Nat.reduceLT, Nat.reduceSub, Nat.reduceMod, Nat.reduceDiv, slot_neg, slot_pos, T.ag_5, T.es_32, T.gf_25, T.ib_3, T.ii_3, T.ii_32, T.ii_5, T.ip_3, T.s8_3, T.s8_32, T.s8_5, T.sl_3, T.sl_32, T.sl_5, T.st_3, T.st_32, T.st_5, T.un_3, T.un_32, T.un_5, init_a, ho.1, ho.2, len_in hr, c0])
        exact ⟨by simp; omega, Upd.refl _ _⟩
      · subst k5
        (refine calls_of_vc [] hm Tryd.func14 rfl (ts := [4]) rfl (by kernel_rfl) (by simp) ?_; simp (config := { dsimp := false, maxSteps := 10000000 }) (disch := omega) only [go_sem, reduceIte, Nat.reduceEqDiff, reduceCtorEq, Nat.reduceAdd, Nat.reduceMul, Int.reduceToNat, Int.reduceLE, Int.reduceLT, Int.reduceEq, Int.reduceNe, Nat.reduceLeDiff, Int.reducePow, Nat.reducePow, Nat.reduceLT, Nat.reduceSub, Nat.reduceMod, Nat.reduceDiv, slot_neg, slot_pos, T.ag_5, T.es_32, T.gf_25, T.ib_3, T.ii_3, T.ii_32, T.ii_5, T.ip_3, T.s8_3, T.s8_32, T.s8_5, T.sl_3, T.sl_32, T.sl_5, T.st_3, T.st_32, T.st_5, T.un_3, T.un_32, T.un_5, init_a, ho.1, ho.2, len_in hr, c0])
        exact ⟨by simp; omega, Upd.refl _ _⟩
  rw [if_neg k25]
  have f2 : (k = 2) = False := eq_false fun e => k25 (.inl e)
  have f5 : (k = 5) = False := eq_false fun e => k25 (.inr e)
  by_cases k15 : k = 15
  · subst k15
    by_cases h0 : 2 < d.length
    · have c0 : ((2 : Int) < (d.length : Int)) = True := eq_true (by omega)
      have ws : IntKind.i64.wrap ((d.length : Int) - 2) = ((d.length - 2 : Nat) : Int) := by rw [i64wrap] <;> omega
      have hr' := hr
      rcases hr with ⟨_, h9⟩ | ⟨q, off, vs, o, hv, hg, hR⟩
      · rw [h9] at h0; simp at h0
      have hqn := hlt _ _ _ hv
      rw [show u8E.k = 1 from rfl] at hv
      (refine calls_of_vc [] hm Tryd.func14 rfl (ts := [4]) rfl (by kernel_rfl) (by simp) ?_; simp (config := { dsimp := false, maxSteps := 10000000 }) (disch := omega) only [go_sem, reduceIte, Nat.reduceEqDiff, reduceCtorEq, Nat.reduceAdd, Nat.reduceMul, Int.reduceToNat, Int.reduceLE, Int.reduceLT, Int.reduceEq, Int.reduceNe, Nat.reduceLeDiff, Int.reducePow, Nat.reducePow, Nat.reduceLT, Nat.reduceSub, Nat.reduceMod, Nat.reduceDiv, slot_neg, slot_pos, T.ag_5, T.es_32, T.gf_25, T.ib_3, T.ii_3, T.ii_32, T.ii_5, T.ip_3, T.s8_3, T.s8_32, T.s8_5, T.sl_3, T.sl_32, T.sl_5, T.st_3, T.st_32, T.st_5, T.un_3, T.un_32, T.un_5, init_a, ho.1, ho.2, len_in hr', c0, hv])
      have hd2 := row_drop 2 hg hR (by omega)
      rw [show ((d.length : Int) - 2).toNat = d.length - 2 from by omega]
      refine ⟨by omega, (plain_ph h _ (d.drop 2) hd2 (fun A n st e => by cases e; exact hqn) (by rw [List.length_drop]; omega)).mono fun u H ⟨hu, hU⟩ => ?_⟩
      subst hu
      simp (config := { dsimp := false, maxSteps := 10000000 }) (disch := omega) only [go_sem, reduceIte, Nat.reduceEqDiff, reduceCtorEq, Nat.reduceAdd, Nat.reduceMul, Int.reduceToNat, Int.reduceLE, Int.reduceLT, Int.reduceEq, Int.reduceNe, Nat.reduceLeDiff, Int.reducePow, Nat.reducePow, Nat.reduceLT, Nat.reduceSub, Nat.reduceMod, Nat.reduceDiv, slot_neg, slot_pos, T.ag_5, T.es_32, T.gf_25, T.ib_3, T.ii_3, T.ii_32, T.ii_5, T.ip_3, T.s8_3, T.s8_32, T.s8_5, T.sl_3, T.sl_32, T.sl_5, T.st_3, T.st_32, T.st_5, T.un_3, T.un_32, T.un_5, len_in hr', hv, ws]
      exact ⟨congrArg Value.bool (decide_eq_decide.2 (by omega)), hU⟩
    · have c0 : ((2 : Int) < (d.length : Int)) = False := eq_false (by omega)
      (refine calls_of_vc [] hm Tryd.func14 rfl (ts := [4]) rfl (by kernel_rfl) (by simp) ?_; simp (config := { dsimp := false, maxSteps := 10000000 }) (disch := omega) only [go_sem, reduceIte, Nat.reduceEqDiff, reduceCtorEq, Nat.reduceAdd, Nat.reduceMul, Int.reduceToNat, Int.reduceLE, Int.reduceLT, Int.reduceEq, Int.reduceNe, Nat.reduceLeDiff, Int.reducePow, Nat.reducePow, Nat.reduceLT, Nat.reduceSub, Nat.reduceMod, Nat.reduceDiv, slot_neg, slot_pos, T.ag_5, T.es_32, T.gf_25, T.ib_3, T.ii_3, T.ii_32, T.ii_5, T.ip_3, T.s8_3, T.s8_32, T.s8_5, T.sl_3, T.sl_32, T.sl_5, T.st_3, T.st_32, T.st_5, T.un_3, T.un_32, T.un_5, init_a, ho.1, ho.2, len_in hr, c0])
      exact ⟨by simp; omega, Upd.refl _ _⟩
  rw [if_neg k15]
  have f15 := eq_false k15
  by_cases k6 : k = 6
  · subst k6
    (refine calls_of_vc [] hm Tryd.func14 rfl (ts := [4]) rfl (by kernel_rfl) (by simp) ?_; simp (config := { dsimp := false, maxSteps := 10000000 }) (disch := omega) only [go_sem, reduceIte, Nat.reduceEqDiff, reduceCtorEq, Nat.reduceAdd, Nat.reduceMul, Int.reduceToNat, Int.reduceLE, Int.reduceLT, Int.reduceEq, Int.reduceNe, Nat.reduceLeDiff, Int.reducePow, Nat.reducePow, Nat.reduceLT, Nat.reduceSub, Nat.reduceMod, Nat.reduceDiv, slot_neg, slot_pos, T.ag_5, T.es_32, T.gf_25, T.ib_3, T.ii_3, T.ii_32, T.ii_5, T.ip_3, T.s8_3, T.s8_32, T.s8_5, T.sl_3, T.sl_32, T.sl_5, T.st_3, T.st_32, T.st_5, T.un_3, T.un_32, T.un_5, init_a, ho.1, ho.2, len_in hr])
    refine (plain_ph h v d hr hlt (by omega)).mono fun u H ⟨hu, hU⟩ => ?_
    subst hu
    by_cases hn : plainN d = 0
    · have c0 : ((plainN d : Int) = 0) = True := eq_true (by omega)
      simp (config := { dsimp := false, maxSteps := 10000000 }) (disch := omega) only [go_sem, reduceIte, Nat.reduceEqDiff, reduceCtorEq, Nat.reduceAdd, Nat.reduceMul, Int.reduceToNat, Int.reduceLE, Int.reduceLT, Int.reduceEq, Int.reduceNe, Nat.reduceLeDiff, Int.reducePow, Nat.reducePow, Nat.reduceLT, Nat.reduceSub, Nat.reduceMod, Nat.reduceDiv, slot_neg, slot_pos, T.ag_5, T.es_32, T.gf_25, T.ib_3, T.ii_3, T.ii_32, T.ii_5, T.ip_3, T.s8_3, T.s8_32, T.s8_5, T.sl_3, T.sl_32, T.sl_5, T.st_3, T.st_32, T.st_5, T.un_3, T.un_32, T.un_5, len_in hr, c0]
      exact ⟨by simp [hn], hU⟩
    · have c0 : ((plainN d : Int) = 0) = False := eq_false (by omega)
      have hr' := hr
      rcases hr with ⟨_, h9⟩ | ⟨q, off, vs, o, hv, hg, hR⟩
      · exact absurd (Nat.le_zero.1 (by rw [h9] at hpl ⊢; exact hpl)) hn
      have hqn : q < h.next := hlt _ _ _ hv
      rw [show u8E.k = 1 from rfl] at hv
      have hd2 := row_drop (plainN d) ((hU.2 q hqn (by simp)).trans hg) hR hpl
      have hpl2 := plainN_le (d.drop (plainN d))
      rw [List.length_drop] at hpl2
      simp (config := { dsimp := false, maxSteps := 10000000 }) (disch := omega) only [go_sem, reduceIte, Nat.reduceEqDiff, reduceCtorEq, Nat.reduceAdd, Nat.reduceMul, Int.reduceToNat, Int.reduceLE, Int.reduceLT, Int.reduceEq, Int.reduceNe, Nat.reduceLeDiff, Int.reducePow, Nat.reducePow, Nat.reduceLT, Nat.reduceSub, Nat.reduceMod, Nat.reduceDiv, slot_neg, slot_pos, T.ag_5, T.es_32, T.gf_25, T.ib_3, T.ii_3, T.ii_32, T.ii_5, T.ip_3, T.s8_3, T.s8_32, T.s8_5, T.sl_3, T.sl_32, T.sl_5, T.st_3, T.st_32, T.st_5, T.un_3, T.un_32, T.un_5, len_in hr', c0, hv]
      rw [show ((d.length : Int) - (plainN d : Int)).toNat = d.length - plainN d from by omega]
      refine ⟨by omega, (plain_ph H _ (d.drop (plainN d)) hd2 (fun A n st e => by cases e; exact Nat.lt_of_lt_of_le hqn hU.1) (by rw [List.length_drop]; omega)).mono fun u H2 ⟨hu, hU2⟩ => ?_⟩
      subst hu
      have hUU := hU.trans hU2 (by simp)
      generalize plainN (d.drop (plainN d)) = m2 at *
      generalize plainN d = m1 at *
      have w1 : IntKind.i64.wrap ((m1 : Int) + (m2 : Int)) = ((m1 + m2 : Nat) : Int) := by rw [i64wrap] <;> omega
      have w2 : IntKind.i64.wrap (((m1 + m2 : Nat) : Int) + 20) = ((m1 + m2 + 20 : Nat) : Int) := by rw [i64wrap] <;> omega
      by_cases h0 : 0 < m2
      · have c1 : ((0 : Int) < (m2 : Int)) = True := eq_true (by omega)
        simp (config := { dsimp := false, maxSteps := 10000000 }) (disch := omega) only [go_sem, reduceIte, Nat.reduceEqDiff, reduceCtorEq, Nat.reduceAdd, Nat.reduceMul, Int.reduceToNat, Int.reduceLE, Int.reduceLT, Int.reduceEq, Int.reduceNe, Nat.reduceLeDiff, Int.reducePow, Nat.reducePow, Nat.reduceLT, Nat.reduceSub, Nat.reduceMod, Nat.reduceDiv, slot_neg, slot_pos, T.ag_5, T.es_32, T.gf_25, T.ib_3, T.ii_3, T.ii_32, T.ii_5, T.ip_3, T.s8_3, T.s8_32, T.s8_5, T.sl_3, T.sl_32, T.sl_5, T.st_3, T.st_32, T.st_5, T.un_3, T.un_32, T.un_5, len_in hr', c1, hv, w1, w2]
        exact ⟨congrArg Value.bool (decide_eq_decide.2 (by omega)), hUU⟩
      · have c1 : ((0 : Int) < (m2 : Int)) = False := eq_false (by omega)
        simp (config := { dsimp := false, maxSteps := 10000000 }) (disch := omega) only [go_sem, reduceIte, Nat.reduceEqDiff, reduceCtorEq, Nat.reduceAdd, Nat.reduceMul, Int.reduceToNat, Int.reduceLE, Int.reduceLT, Int.reduceEq, Int.reduceNe, Nat.reduceLeDiff, Int.reducePow, Nat.reducePow, Nat.reduceLT, Nat.reduceSub, Nat.reduceMod, Nat.reduceDiv, slot_neg, slot_pos, T.ag_5, T.es_32, T.gf_25, T.ib_3, T.ii_3, T.ii_32, T.ii_5, T.ip_3, T.s8_3, T.s8_32, T.s8_5, T.sl_3, T.sl_32, T.sl_5, T.st_3, T.st_32, T.st_5, T.un_3, T.un_32, T.un_5, len_in hr', c1, hv, w1, w2]
        exact ⟨by simp [h0], hUU⟩
  rw [if_neg k6]
  have f6 := eq_false k6
  by_cases k16 : k = 16
  · subst k16
    obtain ⟨z, hz⟩ : ∃ z, txtE d 0 = z := ⟨_, rfl⟩
    rw [hz]
    (refine calls_of_vc [] hm Tryd.func14 rfl (ts := [4]) rfl (by kernel_rfl) (by simp) ?_; simp (config := { dsimp := false, maxSteps := 10000000 }) (disch := omega) only [go_sem, reduceIte, Nat.reduceEqDiff, reduceCtorEq, Nat.reduceAdd, Nat.reduceMul, Int.reduceToNat, Int.reduceLE, Int.reduceLT, Int.reduceEq, Int.reduceNe, Nat.reduceLeDiff, Int.reducePow, Nat.reducePow, Nat.reduceLT, Nat.reduceSub, Nat.reduceMod, Nat.reduceDiv, slot_neg, slot_pos, T.ag_5, T.es_32, T.gf_25, T.ib_3, T.ii_3, T.ii_32, T.ii_5, T.ip_3, T.s8_3, T.s8_32, T.s8_5, T.sl_3, T.sl_32, T.sl_5, T.st_3, T.st_32, T.st_5, T.un_3, T.un_32, T.un_5, init_a, ho.1, ho.2, len_in hr])
    refine loop_intro [] hm (fun r H => ∃ i : Nat, i ≤ d.length + 256 ∧ r 1 = v ∧ r 7 = .int .i64 i ∧ H = h ∧ txtE d i = z) (fun r _ => match r 7 with | .int _ i => d.length + 256 - i.toNat | _ => 0) ?_ ?_
    · exact ⟨0, by omega, by simp [upd, initR], by simp [upd], rfl, hz⟩
    · rintro r H ⟨i, hi, q1, q7, rfl, hzi⟩
      by_cases hil : i < d.length
      · have c1 : ((i : Int) < (d.length : Int)) = True := eq_true (by omega)
        rw [txt_step hil] at hzi
        have hr' := hr
        rcases hr with ⟨_, h9⟩ | ⟨q, off, vs, o, hv, hg, hR⟩
        · rw [h9] at hil; simp at hil
        rw [show u8E.k = 1 from rfl] at hv
        have hb := hR.cell (List.getElem?_eq_getElem hil) (j := 0) Nat.zero_lt_one
        rw [show u8E.k = 1 from rfl, Nat.mul_one, Nat.add_zero, show d[i] = d.getD i 0 from by simp [List.getElem?_eq_getElem hil]] at hb
        have hc := (d.getD i 0).toNat_lt
        generalize d.getD i 0 = c at *
        replace hb : vs[off + i]? = some (.int .u8 (c.toNat : Int)) := hb
        have w0 : IntKind.i64.wrap (c.toNat : Int) = (c.toNat : Int) := i64wrap (by omega) (by omega)
        have w1 : IntKind.i64.wrap (1 + (c.toNat : Int)) = ((1 + c.toNat : Nat) : Int) := by rw [i64wrap] <;> omega
        have w2 : IntKind.i64.wrap ((i : Int) + ((1 + c.toNat : Nat) : Int)) = ((i + 1 + c.toNat : Nat) : Int) := by rw [i64wrap] <;> omega
        simp (config := { dsimp := false, maxSteps := 10000000 }) (disch := omega) only [go_sem, reduceIte, Nat.reduceEqDiff, reduceCtorEq, Nat.reduceAdd, Nat.reduceMul, Int.reduceToNat, Int.reduceLE, Int.reduceLT, Int.reduceEq, Int.reduceNe, Nat.reduceLeDiff, Int.reducePow, Nat.reducePow, Nat.reduceLT, Nat.reduceSub, Nat.reduceMod, Nat.reduceDiv, slot_neg, slot_pos, T.ag_5, T.es_32, T.gf_25, T.ib_3, T.ii_3, T.ii_32, T.ii_5, T.ip_3, T.s8_3, T.s8_32, T.s8_5, T.sl_3, T.sl_32, T.sl_5, T.st_3, T.st_32, T.st_5, T.un_3, T.un_32, T.un_5, q1, q7, len_in hr', hv, hg, hb, c1, w0, w1, w2]
        exact ⟨⟨i + 1 + c.toNat, by omega, rfl, hzi⟩, by omega⟩
      · have c1 : ((i : Int) < (d.length : Int)) = False := eq_false (by omega)
        rw [txt_end hil] at hzi
        subst hzi
        by_cases h0 : 0 < i
        · have c2 : ((0 : Int) < (i : Int)) = True := eq_true (by omega)
          simp (config := { dsimp := false, maxSteps := 10000000 }) (disch := omega) only [go_sem, reduceIte, Nat.reduceEqDiff, reduceCtorEq, Nat.reduceAdd, Nat.reduceMul, Int.reduceToNat, Int.reduceLE, Int.reduceLT, Int.reduceEq, Int.reduceNe, Nat.reduceLeDiff, Int.reducePow, Nat.reducePow, Nat.reduceLT, Nat.reduceSub, Nat.reduceMod, Nat.reduceDiv, slot_neg, slot_pos, T.ag_5, T.es_32, T.gf_25, T.ib_3, T.ii_3, T.ii_32, T.ii_5, T.ip_3, T.s8_3, T.s8_32, T.s8_5, T.sl_3, T.sl_32, T.sl_5, T.st_3, T.st_32, T.st_5, T.un_3, T.un_32, T.un_5, q1, q7, len_in hr, c1, c2]
          exact ⟨congrArg Value.bool (decide_eq_decide.2 (by omega)), Upd.refl _ _⟩
        · have c2 : ((0 : Int) < (i : Int)) = False := eq_false (by omega)
          simp (config := { dsimp := false, maxSteps := 10000000 }) (disch := omega) only [go_sem, reduceIte, Nat.reduceEqDiff, reduceCtorEq, Nat.reduceAdd, Nat.reduceMul, Int.reduceToNat, Int.reduceLE, Int.reduceLT, Int.reduceEq, Int.reduceNe, Nat.reduceLeDiff, Int.reducePow, Nat.reducePow, Nat.reduceLT, Nat.reduceSub, Nat.reduceMod, Nat.reduceDiv, slot_neg, slot_pos, T.ag_5, T.es_32, T.gf_25, T.ib_3, T.ii_3, T.ii_32, T.ii_5, T.ip_3, T.s8_3, T.s8_32, T.s8_5, T.sl_3, T.sl_32, T.sl_5, T.st_3, T.st_32, T.st_5, T.un_3, T.un_32, T.un_5, q1, q7, len_in hr, c1, c2]
          exact ⟨by simp [h0], Upd.refl _ _⟩
  rw [if_neg k16]
  have f16 := eq_false k16
  (refine calls_of_vc [] hm Tryd.func14 rfl (ts := [4]) rfl (by kernel_rfl) (by simp) ?_; simp (config := { dsimp := false, maxSteps := 10000000 }) (disch := omega) only [go_sem, reduceIte, Nat.reduceEqDiff, reduceCtorEq, Nat.reduceAdd, Nat.reduceMul, Int.reduceToNat, Int.reduceLE, Int.reduceLT, Int.reduceEq, Int.reduceNe, Nat.reduceLeDiff, Int.reducePow, Nat.reducePow, Nat.reduceLT, Nat.reduceSub, Nat.reduceMod, Nat.reduceDiv, slot_neg, slot_pos, T.ag_5, T.es_32, T.gf_25, T.ib_3, T.ii_3, T.ii_32, T.ii_5, T.ip_3, T.s8_3, T.s8_32, T.s8_5, T.sl_3, T.sl_32, T.sl_5, T.st_3, T.st_32, T.st_5, T.un_3, T.un_32, T.un_5, init_a, ho.1, ho.2, len_in hr, f1, f28, f2, f5, f15, f6, f16])
  exact Upd.refl _ _
def recE : Enc Rec := ⟨4, fun r => [.string (str r.1), .int .i64 r.2.1, .int .i64 r.2.2.1, .string (str r.2.2.2)], fun _ => rfl, fun _ => rfl⟩
theorem Check_ph (h : Heap) (r : Rec) (h1 : r.1.length ≤ 1099511627776) (h2 : r.2.2.2.length ≤ 1099511627776) : @CallsH Tryd.prog 5 #[.agg (recE.enc r).toArray] h ⟨fun u H => u = .int .i64 (if recOk r = true then 0 else 2) ∧ Upd h H []⟩ := by
  obtain ⟨nm, ty, tl, da⟩ := r
  show @CallsH _ _ #[.agg #[.string (str nm), .int .i64 ty, .int .i64 tl, .string (str da)]] h ⟨_⟩
  unfold recOk
  dsimp only at h1 h2 ⊢
  have hU0 : Upd h (h.alloc (.cells [.string (str nm), .int .i64 ty, .int .i64 tl, .string (str da)] .own)) [] := Upd.alloc _ _ _
  (refine calls_of_vc [] hm Tryd.func5 rfl (ts := [2]) rfl (by kernel_rfl) (by simp) ?_; simp (config := { dsimp := false, maxSteps := 10000000 }) (disch := omega) only [go_sem, reduceIte, Nat.reduceEqDiff, reduceCtorEq, Nat.reduceAdd, Nat.reduceMul, Int.reduceToNat, Int.reduceLE, Int.reduceLT, Int.reduceEq, Int.reduceNe, Nat.reduceLeDiff, Int.reducePow, Nat.reducePow, Nat.reduceLT, Nat.reduceSub, Nat.reduceMod, Nat.reduceDiv, slot_neg, slot_pos, T.ag_3, T.ag_9, T.fo_23_0, T.fo_23_1, T.fo_23_2, T.fo_23_3, T.gf_12, T.gf_13, T.gf_14, T.ib_3, T.ii_32, T.ii_9, T.ip_3, T.s8_32, T.s8_9, T.sl_32, T.sl_9, T.st_32, T.st_9, T.un_32, T.un_9, init_a])
  refine (isName_ph _ nm (by omega)).mono fun u H ⟨hu, hU1⟩ => ?_
  subst hu
  have hU := hU0.trans hU1 (by simp)
  have hg : H.get h.next = .live (.cells [.string (str nm), .int .i64 ty, .int .i64 tl, .string (str da)] .own) := (hU1.2 h.next (Nat.lt_succ_self _) (by simp)).trans (by rw [get_alloc, if_pos rfl])
  cases hn : (nameOf nm).isSome with
  | false =>
    simp (config := { dsimp := false, maxSteps := 10000000 }) (disch := omega) only [go_sem, reduceIte, Nat.reduceEqDiff, reduceCtorEq, Nat.reduceAdd, Nat.reduceMul, Int.reduceToNat, Int.reduceLE, Int.reduceLT, Int.reduceEq, Int.reduceNe, Nat.reduceLeDiff, Int.reducePow, Nat.reducePow, Nat.reduceLT, Nat.reduceSub, Nat.reduceMod, Nat.reduceDiv, slot_neg, slot_pos, T.ag_3, T.ag_9, T.fo_23_0, T.fo_23_1, T.fo_23_2, T.fo_23_3, T.gf_12, T.gf_13, T.gf_14, T.ib_3, T.ii_32, T.ii_9, T.ip_3, T.s8_32, T.s8_9, T.sl_32, T.sl_9, T.st_32, T.st_9, T.un_32, T.un_9, hg]
    exact hU
  | true =>
  simp (config := { dsimp := false, maxSteps := 10000000 }) (disch := omega) only [go_sem, reduceIte, Nat.reduceEqDiff, reduceCtorEq, Nat.reduceAdd, Nat.reduceMul, Int.reduceToNat, Int.reduceLE, Int.reduceLT, Int.reduceEq, Int.reduceNe, Nat.reduceLeDiff, Int.reducePow, Nat.reducePow, Nat.reduceLT, Nat.reduceSub, Nat.reduceMod, Nat.reduceDiv, slot_neg, slot_pos, T.ag_3, T.ag_9, T.fo_23_0, T.fo_23_1, T.fo_23_2, T.fo_23_3, T.gf_12, T.gf_13, T.gf_14, T.ib_3, T.ii_32, T.ii_9, T.ip_3, T.s8_32, T.s8_9, T.sl_32, T.sl_9, T.st_32, T.st_9, T.un_32, T.un_9, hg]
  refine CallsH.pure _ rfl (within_ph _ ty 1 65535) ?_
  by_cases ht : 1 ≤ ty ∧ ty ≤ 65535
  · have c1 : decide (1 ≤ ty ∧ ty ≤ 65535) = true := decide_eq_true ht
    simp (config := { dsimp := false, maxSteps := 10000000 }) (disch := omega) only [go_sem, reduceIte, Nat.reduceEqDiff, reduceCtorEq, Nat.reduceAdd, Nat.reduceMul, Int.reduceToNat, Int.reduceLE, Int.reduceLT, Int.reduceEq, Int.reduceNe, Nat.reduceLeDiff, Int.reducePow, Nat.reducePow, Nat.reduceLT, Nat.reduceSub, Nat.reduceMod, Nat.reduceDiv, slot_neg, slot_pos, T.ag_3, T.ag_9, T.fo_23_0, T.fo_23_1, T.fo_23_2, T.fo_23_3, T.gf_12, T.gf_13, T.gf_14, T.ib_3, T.ii_32, T.ii_9, T.ip_3, T.s8_32, T.s8_9, T.sl_32, T.sl_9, T.st_32, T.st_9, T.un_32, T.un_9, hg, c1]
    refine CallsH.pure _ rfl (within_ph _ tl 0 2147483647) ?_
    by_cases htl : 0 ≤ tl ∧ tl ≤ 2147483647
    · have c2 : decide (0 ≤ tl ∧ tl ≤ 2147483647) = true := decide_eq_true htl
      by_cases hd : da.length ≤ 1000
      · have c3 : ((1000 : Int) < (da.length : Int)) = False := eq_false (by omega)
        simp (config := { dsimp := false, maxSteps := 10000000 }) (disch := omega) only [go_sem, reduceIte, Nat.reduceEqDiff, reduceCtorEq, Nat.reduceAdd, Nat.reduceMul, Int.reduceToNat, Int.reduceLE, Int.reduceLT, Int.reduceEq, Int.reduceNe, Nat.reduceLeDiff, Int.reducePow, Nat.reducePow, Nat.reduceLT, Nat.reduceSub, Nat.reduceMod, Nat.reduceDiv, slot_neg, slot_pos, T.ag_3, T.ag_9, T.fo_23_0, T.fo_23_1, T.fo_23_2, T.fo_23_3, T.gf_12, T.gf_13, T.gf_14, T.ib_3, T.ii_32, T.ii_9, T.ip_3, T.s8_32, T.s8_9, T.sl_32, T.sl_9, T.st_32, T.st_9, T.un_32, T.un_9, hg, c2, c3]
        refine ⟨by omega, (rightData_ph _ ty _ da (.inr ⟨H.next, 0, bc da, .own, rfl, by rw [get_alloc, if_pos rfl], by rw [show u8E.k = 1 from rfl, Nat.mul_one, Nat.zero_add, bc_len]; exact Nat.le_refl _, by rw [show u8E.k = 1 from rfl, Nat.mul_one, u8_flat, List.drop_zero, List.take_of_length_le (by rw [bc_len]; exact Nat.le_refl _)]⟩) (fun A n st e => by cases e; exact Nat.lt_succ_self _) hd).mono fun u H2 ⟨hu, hU2⟩ => ?_⟩
        subst hu
        have hUU := (hU.trans (Upd.alloc _ _ []) (by simp)).trans hU2 (by simp)
        cases hk : rightD ty da with
        | true =>
          simp (config := { dsimp := false, maxSteps := 10000000 }) (disch := omega) only [go_sem, reduceIte, Nat.reduceEqDiff, reduceCtorEq, Nat.reduceAdd, Nat.reduceMul, Int.reduceToNat, Int.reduceLE, Int.reduceLT, Int.reduceEq, Int.reduceNe, Nat.reduceLeDiff, Int.reducePow, Nat.reducePow, Nat.reduceLT, Nat.reduceSub, Nat.reduceMod, Nat.reduceDiv, slot_neg, slot_pos, T.ag_3, T.ag_9, T.fo_23_0, T.fo_23_1, T.fo_23_2, T.fo_23_3, T.gf_12, T.gf_13, T.gf_14, T.ib_3, T.ii_32, T.ii_9, T.ip_3, T.s8_32, T.s8_9, T.sl_32, T.sl_9, T.st_32, T.st_9, T.un_32, T.un_9]
          exact ⟨by simp [hd, ht.1, ht.2, htl.1, htl.2], hUU⟩
        | false =>
          simp (config := { dsimp := false, maxSteps := 10000000 }) (disch := omega) only [go_sem, reduceIte, Nat.reduceEqDiff, reduceCtorEq, Nat.reduceAdd, Nat.reduceMul, Int.reduceToNat, Int.reduceLE, Int.reduceLT, Int.reduceEq, Int.reduceNe, Nat.reduceLeDiff, Int.reducePow, Nat.reducePow, Nat.reduceLT, Nat.reduceSub, Nat.reduceMod, Nat.reduceDiv, slot_neg, slot_pos, T.ag_3, T.ag_9, T.fo_23_0, T.fo_23_1, T.fo_23_2, T.fo_23_3, T.gf_12, T.gf_13, T.gf_14, T.ib_3, T.ii_32, T.ii_9, T.ip_3, T.s8_32, T.s8_9, T.sl_32, T.sl_9, T.st_32, T.st_9, T.un_32, T.un_9]
          exact hUU
      · have c3 : ((1000 : Int) < (da.length : Int)) = True := eq_true (by omega)
        simp (config := { dsimp := false, maxSteps := 10000000 }) (disch := omega) only [go_sem, reduceIte, Nat.reduceEqDiff, reduceCtorEq, Nat.reduceAdd, Nat.reduceMul, Int.reduceToNat, Int.reduceLE, Int.reduceLT, Int.reduceEq, Int.reduceNe, Nat.reduceLeDiff, Int.reducePow, Nat.reducePow, Nat.reduceLT, Nat.reduceSub, Nat.reduceMod, Nat.reduceDiv, slot_neg, slot_pos, T.ag_3, T.ag_9, T.fo_23_0, T.fo_23_1, T.fo_23_2, T.fo_23_3, T.gf_12, T.gf_13, T.gf_14, T.ib_3, T.ii_32, T.ii_9, T.ip_3, T.s8_32, T.s8_9, T.sl_32, T.sl_9, T.st_32, T.st_9, T.un_32, T.un_9, hg, c2, c3]
        exact ⟨by simp [hd], hU⟩
    · have c2 : decide (0 ≤ tl ∧ tl ≤ 2147483647) = false := decide_eq_false htl
      simp (config := { dsimp := false, maxSteps := 10000000 }) (disch := omega) only [go_sem, reduceIte, Nat.reduceEqDiff, reduceCtorEq, Nat.reduceAdd, Nat.reduceMul, Int.reduceToNat, Int.reduceLE, Int.reduceLT, Int.reduceEq, Int.reduceNe, Nat.reduceLeDiff, Int.reducePow, Nat.reducePow, Nat.reduceLT, Nat.reduceSub, Nat.reduceMod, Nat.reduceDiv, slot_neg, slot_pos, T.ag_3, T.ag_9, T.fo_23_0, T.fo_23_1, T.fo_23_2, T.fo_23_3, T.gf_12, T.gf_13, T.gf_14, T.ib_3, T.ii_32, T.ii_9, T.ip_3, T.s8_32, T.s8_9, T.sl_32, T.sl_9, T.st_32, T.st_9, T.un_32, T.un_9, hg, c2]
      exact hU
  · have c1 : decide (1 ≤ ty ∧ ty ≤ 65535) = false := decide_eq_false ht
    simp (config := { dsimp := false, maxSteps := 10000000 }) (disch := omega) only [go_sem, reduceIte, Nat.reduceEqDiff, reduceCtorEq, Nat.reduceAdd, Nat.reduceMul, Int.reduceToNat, Int.reduceLE, Int.reduceLT, Int.reduceEq, Int.reduceNe, Nat.reduceLeDiff, Int.reducePow, Nat.reducePow, Nat.reduceLT, Nat.reduceSub, Nat.reduceMod, Nat.reduceDiv, slot_neg, slot_pos, T.ag_3, T.ag_9, T.fo_23_0, T.fo_23_1, T.fo_23_2, T.fo_23_3, T.gf_12, T.gf_13, T.gf_14, T.ib_3, T.ii_32, T.ii_9, T.ip_3, T.s8_32, T.s8_9, T.sl_32, T.sl_9, T.st_32, T.st_9, T.un_32, T.un_9, hg, c1]
    exact hU
end Ph
