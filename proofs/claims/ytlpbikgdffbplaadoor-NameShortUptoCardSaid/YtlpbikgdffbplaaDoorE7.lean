import Derived.Test.YtlpbikgdffbplaaDoorE6
set_option maxRecDepth 100000
set_option maxHeartbeats 4000000
set_option linter.unusedSimpArgs false
set_option linter.unusedVariables false
namespace Ph
open Go Go.Proofs
attribute [local irreducible] Value.cells
attribute [local go_sem ↓] y_move y_assign y_pick y_nil y_bin y_un y_fa y_field y_ext y_ia y_ix y_slice y_build y_mf y_rg y_nx y_en y_mm y_lk y_mu y_del y_load y_len y_cap y_min y_max y_conv y_bs y_mk y_alloc y_box y_store y_clear y_app y_callf y_callt s_move s_assign s_pick s_nil s_bin s_un s_fa s_field s_ext s_ia s_ix s_slice s_conv s_build s_bs s_mf s_alloc s_box s_rg s_nx s_en s_mm s_lk s_mu s_del s_load s_store s_len s_clear s_cap s_min s_max s_app s_call q_call q_move q_assign q_pick q_nil q_bin q_un q_fa q_field q_ext q_ia q_ix q_slice q_conv q_build q_mf q_lk q_load q_len q_cap q_min q_max l_nil l_move l_assign l_pick l_nilc l_bin l_un l_fa l_field l_ext l_ia l_ix l_slice l_conv l_build l_mf l_lk l_load l_len l_cap l_min l_max l_call put_eq putN_eq o_nil o_plain o_gate v_nil v_plain v_gate vc_skip vc_region vc_seq vc_cond vc_block vc_loop vc_rf vc_exit vc_ret blk_normal blk_ret blk_exit on_normal on_ret on_exit vc_drawn draw_q s_mk l_bs l_mk l_rg l_nx l_en l_mm l_mu l_del l_alloc l_box l_store l_app l_clear pl_done pl_takeS pl_take pl_alt pl_stop one_plain one_gate
attribute [local go_sem] clear_nil clear_sl onAgg_a onTuple_t onFn_f onFn_y onFunc_f c_int c_nil c_sl c_str sl_sl sl_nil sl_str ix_str ix_agg n_nil n_sl n_str app_eq k_nil k_sl cap_n len_sl len_str len_mn len_m onMap_m onIter_i rg_n rg_m nx_p en_p lk_n lk_m up_m setM_n setM_s del_n del_m kt_s kt_i upd_some upd_none ev_tmp ev_const ev_func rd_some gdst_eq otmp_t otmp_c get_put get_alloc next_put next_alloc get_app next_app init_a resV1 resV2 onPtr_ptr onBool_b onInt_i onSlice_s onSome_s onCells_c lett_eq gate_tt gate_tf gate_ff gate_ft gate_dt gate_df also_eq bin un minmax io_none io_some bo_none bo_some partOf List.getElem?_cons_zero List.getElem?_cons_succ List.getElem?_toArray Option.map_some Option.map_none Option.bind_some ne_eq not_true_eq_false not_false_eq_true false_implies true_implies and_true true_and and_self Bool.false_eq_true Nat.zero_add Nat.add_zero List.size_toArray List.length_cons List.length_nil List.map_toArray List.map_cons List.map_nil Array.getD_eq_getD_getElem? Option.getD_some Bool.not_true Bool.not_false Bool.not_eq_true Option.isNone_some Option.isNone_none List.append_toArray List.append_nil List.nil_append List.cons_append decide_true decide_false in_nil in_cons Bool.and_false Bool.and_true Bool.or_false Bool.true_or Bool.false_or get_mask next_mask get_unmask next_unmask ac_move ac_assign ac_pick ac_nil ac_bin ac_un ac_fa ac_field ac_ext ac_ia ac_ix ac_slice ac_build ac_mf ac_call ac_len ac_lk ac_cap ac_min ac_max accM_m accM_n accM_s accM_t ac_load ac_conv accP_p accS_s accS_n accS_i accS_t fixed_ro fixed_lock fixed_own get_ro next_ro lock_live' lock_cells List.mem_cons List.not_mem_nil or_false false_or or_true true_or and_false false_and IntKind.bits Int.natCast_zero Int.natCast_one size_str data_str list_str mk_str ext_str app_str bytes_str w_byte w_byteu Int.toNat_natCast Int.toNat_zero Int.toNat_one Nat.sub_zero ge_iff_le gt_iff_lt Nat.le_refl Int.le_refl List.drop_zero Int.ofNat_eq_natCast Int.natCast_nonneg Int.sub_zero oc_int oc_bool oc_str oc_ptr oc_sl oc_map oc_func List.set_cons_zero List.set_cons_succ Nat.mul_one List.all_cons List.all_nil Bool.and_self res_nil res_tmp res_cell tup_one tup_two tup_nil fill_nil repl_zero cells_agg List.append_eq List.toList_toArray Nat.zero_mul Nat.one_mul repl_one repl_two onSome_build fill_cons onSome_lit splice_eq cells_int cells_bool cells_str cells_ptr cells_sl cells_map cells_func loadK_n loadK_s load_k storeK_n storeK_s store_k all_arr List.take_zero List.take_succ_cons List.drop_succ_cons List.take_nil List.drop_nil lk_own lk_ro lk_lock lk_lk fixed_lk gate_nt gate_nf gate3_b gate3_u undef Bool.true_and Bool.false_and nx_l nx_r nx_lt put_put resV0
attribute [local go_sem] str_inj size_str
theorem name_cnt {l : List UInt8} {ps : List (List UInt8)} (h : nameOf l = some ps) : ps.length ≤ 254 := Nat.le_trans (count_le ps) (name_len h)
theorem Less_ph (h : Heap) (a b : List UInt8) (ha : a.length < 9223372036854775807) (hb : b.length < 9223372036854775807) :
    @CallsH Tryd.prog 12 #[.string (str a), .string (str b)] h ⟨fun u H => u = .bool (lessS (nameOf a) (nameOf b)) ∧ Upd h H []⟩ := by
  (refine calls_of_vc [] hm Tryd.func12 rfl (ts := [4]) rfl (by kernel_rfl) (by simp) ?_; simp (config := { dsimp := false, maxSteps := 10000000 }) (disch := omega) only [go_sem, reduceIte, Nat.reduceEqDiff, reduceCtorEq, Nat.reduceAdd, Nat.reduceMul, Int.reduceToNat, Int.reduceLE, Int.reduceLT, Int.reduceEq, Int.reduceNe, Nat.reduceLeDiff, Int.reducePow, Nat.reducePow, Nat.reduceLT, Nat.reduceSub, Nat.reduceMod, Nat.reduceDiv, slot_neg, slot_pos, T.gf_10, T.gf_21, T.gf_22, T.ib_24, T.ib_3, T.ip_24, T.ip_3, init_a])
  refine (Labels_ph h a ha).mono fun u H1 ⟨hU1, hu1⟩ => ?_
  obtain ⟨v1, e1, D1, x, hu1', hO1, hD1, hx⟩ : ∃ v1 e1 D1 x, u = .tuple #[v1, .int .i64 e1] ∧ OwnRow tE H1 v1 D1 x ∧ (∀ d ∈ D1, h.next ≤ d) ∧ ((e1 = 14 ∧ nameOf a = none) ∨ (e1 = 0 ∧ nameOf a = some x)) := by
    cases hn : nameOf a with
    | none => rw [hn] at hu1; exact ⟨_, 14, [], [], hu1, OwnRow.nil _, by simp, .inl ⟨rfl, rfl⟩⟩
    | some x => rw [hn] at hu1; obtain ⟨v, D, e, hO, hD⟩ := hu1; exact ⟨v, 0, D, x, e, hO, hD, .inr ⟨rfl, rfl⟩⟩
  subst hu1'
  have ho1 := hO1.row.one
  simp (config := { dsimp := false, maxSteps := 10000000 }) (disch := omega) only [go_sem, reduceIte, Nat.reduceEqDiff, reduceCtorEq, Nat.reduceAdd, Nat.reduceMul, Int.reduceToNat, Int.reduceLE, Int.reduceLT, Int.reduceEq, Int.reduceNe, Nat.reduceLeDiff, Int.reducePow, Nat.reducePow, Nat.reduceLT, Nat.reduceSub, Nat.reduceMod, Nat.reduceDiv, slot_neg, slot_pos, T.gf_10, T.gf_21, T.gf_22, T.ib_24, T.ib_3, T.ip_24, T.ip_3, ho1.1, ho1.2]
  refine (Labels_ph H1 b hb).mono fun u H2 ⟨hU2, hu2⟩ => ?_
  obtain ⟨v2, e2, D2, y, hu2', hO2, hD2, hy⟩ : ∃ v2 e2 D2 y, u = .tuple #[v2, .int .i64 e2] ∧ OwnRow tE H2 v2 D2 y ∧ (∀ d ∈ D2, H1.next ≤ d) ∧ ((e2 = 14 ∧ nameOf b = none) ∨ (e2 = 0 ∧ nameOf b = some y)) := by
    cases hn : nameOf b with
    | none => rw [hn] at hu2; exact ⟨_, 14, [], [], hu2, OwnRow.nil _, by simp, .inl ⟨rfl, rfl⟩⟩
    | some x => rw [hn] at hu2; obtain ⟨v, D, e, hO, hD⟩ := hu2; exact ⟨v, 0, D, x, e, hO, hD, .inr ⟨rfl, rfl⟩⟩
  subst hu2'
  have ho2 := hO2.row.one
  have hUU := hU1.trans hU2 (by simp)
  rcases hx with ⟨rfl, hx⟩ | ⟨rfl, hx⟩
  · rw [hx]
    simp (config := { dsimp := false, maxSteps := 10000000 }) (disch := omega) only [go_sem, reduceIte, Nat.reduceEqDiff, reduceCtorEq, Nat.reduceAdd, Nat.reduceMul, Int.reduceToNat, Int.reduceLE, Int.reduceLT, Int.reduceEq, Int.reduceNe, Nat.reduceLeDiff, Int.reducePow, Nat.reducePow, Nat.reduceLT, Nat.reduceSub, Nat.reduceMod, Nat.reduceDiv, slot_neg, slot_pos, T.gf_10, T.gf_21, T.gf_22, T.ib_24, T.ib_3, T.ip_24, T.ip_3, ho1.1, ho1.2, ho2.1, ho2.2]
    exact ⟨rfl, hUU⟩
  rcases hy with ⟨rfl, hy⟩ | ⟨rfl, hy⟩
  · rw [hx, hy]
    simp (config := { dsimp := false, maxSteps := 10000000 }) (disch := omega) only [go_sem, reduceIte, Nat.reduceEqDiff, reduceCtorEq, Nat.reduceAdd, Nat.reduceMul, Int.reduceToNat, Int.reduceLE, Int.reduceLT, Int.reduceEq, Int.reduceNe, Nat.reduceLeDiff, Int.reducePow, Nat.reducePow, Nat.reduceLT, Nat.reduceSub, Nat.reduceMod, Nat.reduceDiv, slot_neg, slot_pos, T.gf_10, T.gf_21, T.gf_22, T.ib_24, T.ib_3, T.ip_24, T.ip_3, ho1.1, ho1.2, ho2.1, ho2.2]
    exact ⟨rfl, hUU⟩
  have nx := name_cnt hx
  have ny := name_cnt hy
  rw [hx, hy]
  simp (config := { dsimp := false, maxSteps := 10000000 }) (disch := omega) only [go_sem, reduceIte, Nat.reduceEqDiff, reduceCtorEq, Nat.reduceAdd, Nat.reduceMul, Int.reduceToNat, Int.reduceLE, Int.reduceLT, Int.reduceEq, Int.reduceNe, Nat.reduceLeDiff, Int.reducePow, Nat.reducePow, Nat.reduceLT, Nat.reduceSub, Nat.reduceMod, Nat.reduceDiv, slot_neg, slot_pos, T.gf_10, T.gf_21, T.gf_22, T.ib_24, T.ib_3, T.ip_24, T.ip_3, ho1.1, ho1.2, ho2.1, ho2.2]
  refine (Reverse_ph H2 v1 D1 x (hO1.upd hU2 (by simp)) (by omega)).mono fun _ H3 ⟨hO3, hU3⟩ => ?_
  simp (config := { dsimp := false, maxSteps := 10000000 }) (disch := omega) only [go_sem, reduceIte, Nat.reduceEqDiff, reduceCtorEq, Nat.reduceAdd, Nat.reduceMul, Int.reduceToNat, Int.reduceLE, Int.reduceLT, Int.reduceEq, Int.reduceNe, Nat.reduceLeDiff, Int.reducePow, Nat.reducePow, Nat.reduceLT, Nat.reduceSub, Nat.reduceMod, Nat.reduceDiv, slot_neg, slot_pos, T.gf_10, T.gf_21, T.gf_22, T.ib_24, T.ib_3, T.ip_24, T.ip_3, ho1.1, ho1.2, ho2.1, ho2.2]
  have hdis : ∀ d ∈ D2, d ∉ D1 := fun d hd h1 => by have := hD2 d hd; have := hO1.lt d h1; omega
  refine (Reverse_ph H3 v2 D2 y (hO2.upd hU3 hdis) (by omega)).mono fun _ H4 ⟨hO4, hU4⟩ => ?_
  simp (config := { dsimp := false, maxSteps := 10000000 }) (disch := omega) only [go_sem, reduceIte, Nat.reduceEqDiff, reduceCtorEq, Nat.reduceAdd, Nat.reduceMul, Int.reduceToNat, Int.reduceLE, Int.reduceLT, Int.reduceEq, Int.reduceNe, Nat.reduceLeDiff, Int.reducePow, Nat.reducePow, Nat.reduceLT, Nat.reduceSub, Nat.reduceMod, Nat.reduceDiv, slot_neg, slot_pos, T.gf_10, T.gf_21, T.gf_22, T.ib_24, T.ib_3, T.ip_24, T.ip_3, ho1.1, ho1.2, ho2.1, ho2.2]
  have hO3' := hO3.upd hU4 fun d hd h2 => hdis d h2 hd
  refine CallsH.pure _ rfl (CompareT_ph H4 v1 v2 x.reverse y.reverse hO3'.row hO4.row (by simp; omega) (by simp; omega)) ?_
  simp (config := { dsimp := false, maxSteps := 10000000 }) (disch := omega) only [go_sem, reduceIte, Nat.reduceEqDiff, reduceCtorEq, Nat.reduceAdd, Nat.reduceMul, Int.reduceToNat, Int.reduceLE, Int.reduceLT, Int.reduceEq, Int.reduceNe, Nat.reduceLeDiff, Int.reducePow, Nat.reducePow, Nat.reduceLT, Nat.reduceSub, Nat.reduceMod, Nat.reduceDiv, slot_neg, slot_pos, T.gf_10, T.gf_21, T.gf_22, T.ib_24, T.ib_3, T.ip_24, T.ip_3, ho1.1, ho1.2, ho2.1, ho2.2]
  exact ⟨by rw [cmpL_lt]; rfl, (hUU.trans hU3 fun d hd => .inr (hD1 d hd)).trans hU4 fun d hd => .inr (by have := hD2 d hd; have := hU1.1; omega)⟩
theorem named_ph (h : Heap) : @CallsH Tryd.prog 6 #[] h ⟨fun u H => u = .bool true ∧ Upd h H []⟩ := by
  have e1 : wireS [97, 46, 98, 99, 46] = some [1, 97, 2, 98, 99, 0] := by decide +kernel
  have e2 : wireS [46] = some [0] := by decide +kernel
  have e3 : lessS (nameOf [122, 46, 97, 46]) (nameOf [97, 46, 98, 46]) = true := by decide +kernel
  (refine calls_of_vc [] hm Tryd.func6 rfl (ts := [0]) rfl (by kernel_rfl) (by simp) ?_; simp (config := { dsimp := false, maxSteps := 10000000 }) (disch := omega) only [go_sem, reduceIte, Nat.reduceEqDiff, reduceCtorEq, Nat.reduceAdd, Nat.reduceMul, Int.reduceToNat, Int.reduceLE, Int.reduceLT, Int.reduceEq, Int.reduceNe, Nat.reduceLeDiff, Int.reducePow, Nat.reducePow, Nat.reduceLT, Nat.reduceSub, Nat.reduceMod, Nat.reduceDiv, slot_neg, slot_pos, T.gf_12, T.gf_8, T.ib_24, T.ib_9, T.ii_23, T.ii_9, T.ip_24, T.ip_9, T.s8_23, T.s8_9, T.sl_23, T.sl_9, T.st_23, T.st_9, T.un_23, T.un_9, init_a, mk_str])
  refine (Wire_ph h [97, 46, 98, 99, 46] (by decide)).mono fun u H1 ⟨hU1, hu1⟩ => ?_
  rw [e1] at hu1
  obtain ⟨v1, D1, rfl, hO1, hD1⟩ := hu1
  have ho1 := hO1.row.one
  simp (config := { dsimp := false, maxSteps := 10000000 }) (disch := omega) only [go_sem, reduceIte, Nat.reduceEqDiff, reduceCtorEq, Nat.reduceAdd, Nat.reduceMul, Int.reduceToNat, Int.reduceLE, Int.reduceLT, Int.reduceEq, Int.reduceNe, Nat.reduceLeDiff, Int.reducePow, Nat.reducePow, Nat.reduceLT, Nat.reduceSub, Nat.reduceMod, Nat.reduceDiv, slot_neg, slot_pos, T.gf_12, T.gf_8, T.ib_24, T.ib_9, T.ii_23, T.ii_9, T.ip_24, T.ip_9, T.s8_23, T.s8_9, T.sl_23, T.sl_9, T.st_23, T.st_9, T.un_23, T.un_9, ho1.1, ho1.2, mk_str]
  refine (Wire_ph H1 [46] (by decide)).mono fun u H2 ⟨hU2, hu2⟩ => ?_
  rw [e2] at hu2
  obtain ⟨v2, D2, rfl, hO2, hD2⟩ := hu2
  have ho2 := hO2.row.one
  have hO1' := hO1.upd hU2 (by simp)
  rcases hO1' with ⟨_, h1, _⟩ | ⟨q1, off1, vs1, _, _, hv1, hg1, hR1⟩
  · cases h1
  rcases hO2 with ⟨_, h1, _⟩ | ⟨q2, off2, vs2, _, _, hv2, hg2, hR2⟩
  · cases h1
  have r1 : List.take 6 (List.drop off1 vs1) = bc [1, 97, 2, 98, 99, 0] := by have := hR1.2; rw [u8_flat] at this; exact this
  have r2 : List.take 1 (List.drop off2 vs2) = bc [0] := by have := hR2.2; rw [u8_flat] at this; exact this
  have l1 : off1 + 6 ≤ vs1.length := hR1.1
  have l2 : off2 + 1 ≤ vs2.length := hR2.1
  subst hv1 hv2
  simp (config := { dsimp := false, maxSteps := 10000000 }) (disch := omega) only [go_sem, reduceIte, Nat.reduceEqDiff, reduceCtorEq, Nat.reduceAdd, Nat.reduceMul, Int.reduceToNat, Int.reduceLE, Int.reduceLT, Int.reduceEq, Int.reduceNe, Nat.reduceLeDiff, Int.reducePow, Nat.reducePow, Nat.reduceLT, Nat.reduceSub, Nat.reduceMod, Nat.reduceDiv, slot_neg, slot_pos, T.gf_12, T.gf_8, T.ib_24, T.ib_9, T.ii_23, T.ii_9, T.ip_24, T.ip_9, T.s8_23, T.s8_9, T.sl_23, T.sl_9, T.st_23, T.st_9, T.un_23, T.un_9, ho1.1, ho1.2, mk_str, hg1, hg2, r1, r2, bc_val]
  refine ⟨l1, l2, ?_⟩
  refine (Less_ph H2 _ _ (by decide) (by decide)).mono fun u H3 ⟨hu3, hU3⟩ => ?_
  rw [e3] at hu3
  subst hu3
  simp (config := { dsimp := false, maxSteps := 10000000 }) (disch := omega) only [go_sem, reduceIte, Nat.reduceEqDiff, reduceCtorEq, Nat.reduceAdd, Nat.reduceMul, Int.reduceToNat, Int.reduceLE, Int.reduceLT, Int.reduceEq, Int.reduceNe, Nat.reduceLeDiff, Int.reducePow, Nat.reducePow, Nat.reduceLT, Nat.reduceSub, Nat.reduceMod, Nat.reduceDiv, slot_neg, slot_pos, T.gf_12, T.gf_8, T.ib_24, T.ib_9, T.ii_23, T.ii_9, T.ip_24, T.ip_9, T.s8_23, T.s8_9, T.sl_23, T.sl_9, T.st_23, T.st_9, T.un_23, T.un_9, ho1.1, ho1.2, mk_str]
  exact (hU1.trans hU2 (by simp)).trans hU3 (by simp)
end Ph
