import Derived.Test.YthghohhaagkbnaaC8
set_option maxRecDepth 100000
set_option maxHeartbeats 4000000
set_option linter.unusedSimpArgs false
set_option linter.unusedVariables false
namespace Ph
open Go Go.Proofs
attribute [local irreducible] Value.cells
attribute [local go_sem ↓] y_move y_assign y_pick y_nil y_bin y_un y_fa y_field y_ext y_ia y_ix y_slice y_build y_mf y_rg y_nx y_en y_mm y_lk y_mu y_del y_load y_len y_min y_max y_conv y_bs y_mk y_alloc y_box y_store y_clear y_app y_callf y_callt s_move s_assign s_pick s_nil s_bin s_un s_fa s_field s_ext s_ia s_ix s_slice s_conv s_build s_bs s_mf s_alloc s_box s_rg s_nx s_en s_mm s_lk s_mu s_del s_load s_store s_len s_clear s_min s_max s_app s_call q_call q_move q_assign q_pick q_nil q_bin q_un q_fa q_field q_ext q_ia q_ix q_slice q_conv q_build q_mf q_lk q_load q_len q_min q_max l_nil l_move l_assign l_pick l_nilc l_bin l_un l_fa l_field l_ext l_ia l_ix l_slice l_conv l_build l_mf l_lk l_load l_len l_min l_max l_call put_eq putN_eq o_nil o_plain o_gate v_nil v_plain v_gate vc_skip vc_region vc_seq vc_cond vc_block vc_loop vc_rf vc_exit vc_ret blk_normal blk_ret blk_exit on_normal on_ret on_exit vc_drawn draw_q s_mk l_bs l_mk l_rg l_nx l_en l_mm l_mu l_del l_alloc l_box l_store l_app l_clear pl_done pl_takeS pl_take pl_alt pl_stop one_plain one_gate
attribute [local go_sem] clear_nil clear_sl onAgg_a onTuple_t onFn_f onFn_y onFunc_f c_int c_nil c_sl c_str sl_sl sl_nil sl_str ix_str ix_agg n_nil n_sl n_str app_eq k_nil k_sl len_sl len_str len_mn len_m onMap_m onIter_i rg_n rg_m nx_p en_p lk_n lk_m up_m setM_n setM_s del_n del_m kt_s kt_i upd_some upd_none ev_tmp ev_const ev_func rd_some gdst_eq otmp_t otmp_c get_put get_alloc next_put next_alloc get_app next_app init_a resV1 resV2 onPtr_ptr onBool_b onInt_i onSlice_s onSome_s onCells_c lett_eq gate_tt gate_tf gate_ff gate_ft gate_dt gate_df also_eq bin un minmax io_none io_some bo_none bo_some partOf List.getElem?_cons_zero List.getElem?_cons_succ List.getElem?_toArray Option.map_some Option.map_none Option.bind_some ne_eq not_true_eq_false not_false_eq_true false_implies true_implies and_true true_and and_self Bool.false_eq_true Nat.zero_add Nat.add_zero List.size_toArray List.length_cons List.length_nil List.map_toArray List.map_cons List.map_nil Array.getD_eq_getD_getElem? Option.getD_some Bool.not_true Bool.not_false Bool.not_eq_true Option.isNone_some Option.isNone_none List.append_toArray List.append_nil List.nil_append List.cons_append decide_true decide_false in_nil in_cons Bool.and_false Bool.and_true Bool.or_false Bool.true_or Bool.false_or get_mask next_mask get_unmask next_unmask ac_move ac_assign ac_pick ac_nil ac_bin ac_un ac_fa ac_field ac_ext ac_ia ac_ix ac_slice ac_build ac_mf ac_call ac_len ac_lk ac_min ac_max accM_m accM_n accM_s accM_t ac_load ac_conv accP_p accS_s accS_n accS_i accS_t fixed_ro fixed_lock fixed_own get_ro next_ro lock_live' lock_cells List.mem_cons List.not_mem_nil or_false false_or or_true true_or and_false false_and IntKind.bits Int.natCast_zero Int.natCast_one size_str data_str list_str mk_str ext_str app_str bytes_str w_byte w_byteu Int.toNat_natCast Int.toNat_zero Int.toNat_one Nat.sub_zero ge_iff_le gt_iff_lt Nat.le_refl Int.le_refl List.drop_zero Int.ofNat_eq_natCast Int.natCast_nonneg Int.sub_zero oc_int oc_bool oc_str oc_ptr oc_sl oc_map oc_func List.set_cons_zero List.set_cons_succ Nat.mul_one List.all_cons List.all_nil Bool.and_self res_nil res_tmp res_cell tup_one tup_two tup_nil fill_nil repl_zero cells_agg List.append_eq List.toList_toArray Nat.zero_mul Nat.one_mul repl_one repl_two onSome_build fill_cons onSome_lit splice_eq cells_int cells_bool cells_str cells_ptr cells_sl cells_map cells_func loadK_n loadK_s load_k storeK_n storeK_s store_k all_arr List.take_zero List.take_succ_cons List.drop_succ_cons List.take_nil List.drop_nil lk_own lk_ro lk_lock lk_lk fixed_lk gate_nt gate_nf gate3_b gate3_u undef Bool.true_and Bool.false_and nx_l nx_r nx_lt put_put resV0
/-! CacheLeast. -/
theorem LeastA_ph (x : Int) (H : Heap) : @CallsH Try.prog 15 #[.int .i64 x] H ⟨fun u H' => u = .int .i64 x ∧ H' = H⟩ := by
  (refine calls_of_vc [] hm Try.func15 rfl (ts := [2]) rfl (by kernel_rfl) (by simp) ?_; simp (config := { dsimp := false }) only [go_sem, reduceIte, Nat.reduceEqDiff, reduceCtorEq, Nat.reduceAdd, Nat.reduceMul, Int.reduceToNat, Int.reduceLE, Int.reduceLT, Int.reduceEq, Int.reduceNe, Nat.reduceLeDiff, Int.reducePow, Nat.reducePow, Nat.reduceLT, Nat.reduceSub, Nat.reduceMod, Nat.reduceDiv, init_a])
def negHalf (x : Int) : Int := IntKind.i64.wrap (0 - IntKind.i64.wrap (x.tdiv 2))
theorem LeastB_ph (x : Int) (H : Heap) : @CallsH Try.prog 16 #[.int .i64 x] H ⟨fun u H' => u = .int .i64 (negHalf x) ∧ H' = H⟩ := by
  (refine calls_of_vc [] hm Try.func16 rfl (ts := [2]) rfl (by kernel_rfl) (by simp) ?_; simp (config := { dsimp := false }) only [go_sem, reduceIte, Nat.reduceEqDiff, reduceCtorEq, Nat.reduceAdd, Nat.reduceMul, Int.reduceToNat, Int.reduceLE, Int.reduceLT, Int.reduceEq, Int.reduceNe, Nat.reduceLeDiff, Int.reducePow, Nat.reducePow, Nat.reduceLT, Nat.reduceSub, Nat.reduceMod, Nat.reduceDiv, T.ib_3, T.ip_3, init_a])
  rfl
theorem nh_eq (x : Int) : IntKind.i64.wrap (0 - IntKind.i64.wrap (x.tdiv 2)) = negHalf x := rfl
theorem CacheLeast_ph (h : Heap) (l0 : (List Int)) (s0 : Value) (hs0 : SlR (Rd.int .i64) h s0 l0) (wf0 : (l0.length ≤ maxLen ∧ ∀ x ∈ l0, (Lit.int .i64 x).wf = true)) :
    @CallsH Try.prog 4 #[s0] h ⟨fun u _ => u = .bool true⟩ := by
  obtain ⟨hr0, hlt0⟩ := slr_int hs0
  have hlen : l0.length ≤ 9223372036854775807 := by have := wf0.1; unfold maxLen at this; omega
  clear hs0
  (refine calls_of_codeR (rs := [.tmp 2]) Try.func4 rfl rfl (by simp) ?_)
  (refine CodeH.seq' (CodeH.of_vc [] hm (by kernel_rfl) ?_); simp (config := { dsimp := false, maxSteps := 10000000 }) (disch := omega) only [go_sem, reduceIte, Nat.reduceEqDiff, reduceCtorEq, Nat.reduceAdd, Nat.reduceMul, Int.reduceToNat, Int.reduceLE, Int.reduceLT, Int.reduceEq, Int.reduceNe, Nat.reduceLeDiff, Int.reducePow, Nat.reducePow, Nat.reduceLT, Nat.reduceSub, Nat.reduceMod, Nat.reduceDiv, slot_neg, slot_pos, T.ag_3, T.es_22, T.gf_13, T.gf_14, T.gf_15, T.gf_16, T.gf_9, T.ib_3, T.ib_4, T.ii_22, T.ip_3, T.ip_4, T.s8_22, T.sl_22, T.st_22, T.un_22, init_a])
  refine CodeH.seq (fun r H => H = h ∧ ∃ v, r 0 = v ∧ RowIn iE h v (l0.take 100) ∧ ∀ A n st, v = .slice (some A) n st → A.block < h.next) (CodeH.of_vc [] hm (by kernel_rfl) ?_) fun r H ⟨eH, v, q0, hr, hlt⟩ => ?_
  · rcases hr0 with ⟨rfl, rfl⟩ | ⟨q, off, vs, o, rfl, hq, hR⟩
    · simp (config := { dsimp := false, maxSteps := 10000000 }) (disch := omega) only [go_sem, reduceIte, Nat.reduceEqDiff, reduceCtorEq, Nat.reduceAdd, Nat.reduceMul, Int.reduceToNat, Int.reduceLE, Int.reduceLT, Int.reduceEq, Int.reduceNe, Nat.reduceLeDiff, Int.reducePow, Nat.reducePow, Nat.reduceLT, Nat.reduceSub, Nat.reduceMod, Nat.reduceDiv, slot_neg, slot_pos, T.ag_3, T.es_22, T.gf_13, T.gf_14, T.gf_15, T.gf_16, T.gf_9, T.ib_3, T.ib_4, T.ii_22, T.ip_3, T.ip_4, T.s8_22, T.sl_22, T.st_22, T.un_22]
      exact ⟨_, rfl, .inl ⟨rfl, rfl⟩, fun A n st e => by cases e⟩
    · simp (config := { dsimp := false, maxSteps := 10000000 }) (disch := omega) only [go_sem, reduceIte, Nat.reduceEqDiff, reduceCtorEq, Nat.reduceAdd, Nat.reduceMul, Int.reduceToNat, Int.reduceLE, Int.reduceLT, Int.reduceEq, Int.reduceNe, Nat.reduceLeDiff, Int.reducePow, Nat.reducePow, Nat.reduceLT, Nat.reduceSub, Nat.reduceMod, Nat.reduceDiv, slot_neg, slot_pos, T.ag_3, T.es_22, T.gf_13, T.gf_14, T.gf_15, T.gf_16, T.gf_9, T.ib_3, T.ib_4, T.ii_22, T.ip_3, T.ip_4, T.s8_22, T.sl_22, T.st_22, T.un_22]
      have e1 : (if (100 : Int) < (l0.length : Int) then (100 : Int) else (l0.length : Int)) = ((l0.take 100).length : Nat) := by rw [List.length_take]; split <;> omega
      rw [e1]
      refine ⟨rfl, ⟨by omega, by rw [List.length_take]; omega⟩, _, rfl, .inr ⟨q, off, vs, o, by rw [Int.toNat_natCast], hq, ?_⟩, fun A n st e => ?_⟩
      · have := hR.take (min 100 l0.length) (by omega)
        rwa [show List.take (min 100 l0.length) l0 = List.take 100 l0 by rw [← List.take_take, List.take_length]] at this
      · have := hlt0 _ _ _ rfl
        cases e
        exact this
  subst eH
  have hl : (l0.take 100).length ≤ 100 := by rw [List.length_take]; omega
  generalize l0.take 100 = l at hr hl
  clear hr0 hlt0 hlen wf0
  refine CodeH.seq (fun r H' => r 0 = v ∧ r 3 = .int .i64 (lst (fun x => x) l).1 ∧ r 4 = .bool (lst (fun x => x) l).2 ∧ Upd H H' []) (CodeH.of_vc [] hm (by kernel_rfl) ?_) fun r H1 ⟨q0, q3, q4, hU⟩ => ?_
  · simp (config := { dsimp := false, maxSteps := 10000000 }) (disch := omega) only [go_sem, reduceIte, Nat.reduceEqDiff, reduceCtorEq, Nat.reduceAdd, Nat.reduceMul, Int.reduceToNat, Int.reduceLE, Int.reduceLT, Int.reduceEq, Int.reduceNe, Nat.reduceLeDiff, Int.reducePow, Nat.reducePow, Nat.reduceLT, Nat.reduceSub, Nat.reduceMod, Nat.reduceDiv, slot_neg, slot_pos, T.ag_3, T.es_22, T.gf_13, T.gf_14, T.gf_15, T.gf_16, T.gf_9, T.ib_3, T.ib_4, T.ii_22, T.ip_3, T.ip_4, T.s8_22, T.sl_22, T.st_22, T.un_22, q0]
    refine (ValInt_ph H v l hr).mono fun u H' ⟨hu, hH⟩ => ?_
    subst hu hH
    simp (config := { dsimp := false, maxSteps := 10000000 }) (disch := omega) only [go_sem, reduceIte, Nat.reduceEqDiff, reduceCtorEq, Nat.reduceAdd, Nat.reduceMul, Int.reduceToNat, Int.reduceLE, Int.reduceLT, Int.reduceEq, Int.reduceNe, Nat.reduceLeDiff, Int.reducePow, Nat.reducePow, Nat.reduceLT, Nat.reduceSub, Nat.reduceMod, Nat.reduceDiv, slot_neg, slot_pos, T.ag_3, T.es_22, T.gf_13, T.gf_14, T.gf_15, T.gf_16, T.gf_9, T.ib_3, T.ib_4, T.ii_22, T.ip_3, T.ip_4, T.s8_22, T.sl_22, T.st_22, T.un_22, q0]
    refine (Least_ph _ H.next v l 15 (fun x => x) (by omega) (by kernel_rfl) (fun x H => LeastA_ph x H) .own (by rw [get_alloc, if_pos rfl]) (Nat.lt_succ_self _) (hr.upd fun A n st e => by rw [get_alloc, if_neg (by have := hlt A n st e; omega)]) fun A n st e => Nat.lt_succ_of_lt (hlt A n st e)).mono fun u H' ⟨hu, hU⟩ => ?_
    subst hu
    simp (config := { dsimp := false, maxSteps := 10000000 }) (disch := omega) only [go_sem, reduceIte, Nat.reduceEqDiff, reduceCtorEq, Nat.reduceAdd, Nat.reduceMul, Int.reduceToNat, Int.reduceLE, Int.reduceLT, Int.reduceEq, Int.reduceNe, Nat.reduceLeDiff, Int.reducePow, Nat.reducePow, Nat.reduceLT, Nat.reduceSub, Nat.reduceMod, Nat.reduceDiv, slot_neg, slot_pos, T.ag_3, T.es_22, T.gf_13, T.gf_14, T.gf_15, T.gf_16, T.gf_9, T.ib_3, T.ib_4, T.ii_22, T.ip_3, T.ip_4, T.s8_22, T.sl_22, T.st_22, T.un_22, q0]
    exact (Upd.alloc _ _ _).trans hU (by simp)
  have hlt1 : ∀ A n st, v = .slice (some A) n st → A.block < H1.next := fun A n st e => Nat.lt_of_lt_of_le (hlt A n st e) hU.1
  have hr1 : RowIn iE H1 v l := hr.upd fun A n st e => hU.2 _ (hlt A n st e) (by simp)
  refine CodeH.seq (fun r H' => r 0 = v ∧ r 3 = .int .i64 (lst (fun x => x) l).1 ∧ r 4 = .bool (lst (fun x => x) l).2 ∧ r 5 = .int .i64 (lst negHalf l).1 ∧ r 6 = .bool (lst negHalf l).2 ∧ Upd H1 H' []) (CodeH.of_vc [] hm (by kernel_rfl) ?_) fun r H2 ⟨q0, q3, q4, q5, q6, hU2⟩ => ?_
  · simp (config := { dsimp := false, maxSteps := 10000000 }) (disch := omega) only [go_sem, reduceIte, Nat.reduceEqDiff, reduceCtorEq, Nat.reduceAdd, Nat.reduceMul, Int.reduceToNat, Int.reduceLE, Int.reduceLT, Int.reduceEq, Int.reduceNe, Nat.reduceLeDiff, Int.reducePow, Nat.reducePow, Nat.reduceLT, Nat.reduceSub, Nat.reduceMod, Nat.reduceDiv, slot_neg, slot_pos, T.ag_3, T.es_22, T.gf_13, T.gf_14, T.gf_15, T.gf_16, T.gf_9, T.ib_3, T.ib_4, T.ii_22, T.ip_3, T.ip_4, T.s8_22, T.sl_22, T.st_22, T.un_22, q0, q3, q4]
    refine (ValInt_ph H1 v l hr1).mono fun u H' ⟨hu, hH⟩ => ?_
    subst hu hH
    simp (config := { dsimp := false, maxSteps := 10000000 }) (disch := omega) only [go_sem, reduceIte, Nat.reduceEqDiff, reduceCtorEq, Nat.reduceAdd, Nat.reduceMul, Int.reduceToNat, Int.reduceLE, Int.reduceLT, Int.reduceEq, Int.reduceNe, Nat.reduceLeDiff, Int.reducePow, Nat.reducePow, Nat.reduceLT, Nat.reduceSub, Nat.reduceMod, Nat.reduceDiv, slot_neg, slot_pos, T.ag_3, T.es_22, T.gf_13, T.gf_14, T.gf_15, T.gf_16, T.gf_9, T.ib_3, T.ib_4, T.ii_22, T.ip_3, T.ip_4, T.s8_22, T.sl_22, T.st_22, T.un_22, q0, q3, q4]
    refine (Least_ph _ H1.next v l 16 negHalf (by omega) (by kernel_rfl) (fun x H => LeastB_ph x H) .own (by rw [get_alloc, if_pos rfl]) (Nat.lt_succ_self _) (hr1.upd fun A n st e => by rw [get_alloc, if_neg (by have := hlt1 A n st e; omega)]) fun A n st e => Nat.lt_succ_of_lt (hlt1 A n st e)).mono fun u H' ⟨hu, hU⟩ => ?_
    subst hu
    simp (config := { dsimp := false, maxSteps := 10000000 }) (disch := omega) only [go_sem, reduceIte, Nat.reduceEqDiff, reduceCtorEq, Nat.reduceAdd, Nat.reduceMul, Int.reduceToNat, Int.reduceLE, Int.reduceLT, Int.reduceEq, Int.reduceNe, Nat.reduceLeDiff, Int.reducePow, Nat.reducePow, Nat.reduceLT, Nat.reduceSub, Nat.reduceMod, Nat.reduceDiv, slot_neg, slot_pos, T.ag_3, T.es_22, T.gf_13, T.gf_14, T.gf_15, T.gf_16, T.gf_9, T.ib_3, T.ib_4, T.ii_22, T.ip_3, T.ip_4, T.s8_22, T.sl_22, T.st_22, T.un_22, q0, q3, q4]
    exact (Upd.alloc _ _ _).trans hU (by simp)
  have hlt2 : ∀ A n st, v = .slice (some A) n st → A.block < H2.next := fun A n st e => Nat.lt_of_lt_of_le (hlt1 A n st e) hU2.1
  have hr2 : RowIn iE H2 v l := hr1.upd fun A n st e => hU2.2 _ (hlt1 A n st e) (by simp)
  obtain ⟨A, st, hv⟩ := hr.form
  have hs1 := lst_some (fun x => x) l
  have hs2 := lst_some negHalf l
  obtain ⟨b, hb1, hb2, hb3⟩ : ∃ b : Bool, (lst (fun x => x) l).2 = b ∧ (lst negHalf l).2 = b ∧ decide (0 < (l.length : Int)) = b := by
    refine ⟨decide (l ≠ []), hs1, hs2, ?_⟩
    cases l with
    | nil => simp
    | cons x l => simp
  rw [hb1] at q4
  rw [hb2] at q6
  refine CodeH.seq (fun r H' => r 0 = v ∧ r 3 = .int .i64 (lst (fun x => x) l).1 ∧ r 5 = .int .i64 (lst negHalf l).1 ∧ Upd H2 H' []) (CodeH.of_vc [] hm (by kernel_rfl) ?_) fun r H3 ⟨q0, q3, q5, hU3⟩ => ?_
  · simp (config := { dsimp := false, maxSteps := 10000000 }) (disch := omega) only [go_sem, reduceIte, Nat.reduceEqDiff, reduceCtorEq, Nat.reduceAdd, Nat.reduceMul, Int.reduceToNat, Int.reduceLE, Int.reduceLT, Int.reduceEq, Int.reduceNe, Nat.reduceLeDiff, Int.reducePow, Nat.reducePow, Nat.reduceLT, Nat.reduceSub, Nat.reduceMod, Nat.reduceDiv, slot_neg, slot_pos, T.ag_3, T.es_22, T.gf_13, T.gf_14, T.gf_15, T.gf_16, T.gf_9, T.ib_3, T.ib_4, T.ii_22, T.ip_3, T.ip_4, T.s8_22, T.sl_22, T.st_22, T.un_22, q0, q3, q4, q5, q6]
    refine (keeps_ph _).mono fun u H ⟨hu, hU⟩ => ?_
    subst hu
    simp (config := { dsimp := false, maxSteps := 10000000 }) (disch := omega) only [go_sem, reduceIte, Nat.reduceEqDiff, reduceCtorEq, Nat.reduceAdd, Nat.reduceMul, Int.reduceToNat, Int.reduceLE, Int.reduceLT, Int.reduceEq, Int.reduceNe, Nat.reduceLeDiff, Int.reducePow, Nat.reducePow, Nat.reduceLT, Nat.reduceSub, Nat.reduceMod, Nat.reduceDiv, slot_neg, slot_pos, T.ag_3, T.es_22, T.gf_13, T.gf_14, T.gf_15, T.gf_16, T.gf_9, T.ib_3, T.ib_4, T.ii_22, T.ip_3, T.ip_4, T.s8_22, T.sl_22, T.st_22, T.un_22, q0, q3, q4, q5, q6, hv]
    rw [hb3]
    cases b
    · simp (config := { dsimp := false, maxSteps := 10000000 }) (disch := omega) only [go_sem, reduceIte, Nat.reduceEqDiff, reduceCtorEq, Nat.reduceAdd, Nat.reduceMul, Int.reduceToNat, Int.reduceLE, Int.reduceLT, Int.reduceEq, Int.reduceNe, Nat.reduceLeDiff, Int.reducePow, Nat.reducePow, Nat.reduceLT, Nat.reduceSub, Nat.reduceMod, Nat.reduceDiv, slot_neg, slot_pos, T.ag_3, T.es_22, T.gf_13, T.gf_14, T.gf_15, T.gf_16, T.gf_9, T.ib_3, T.ib_4, T.ii_22, T.ip_3, T.ip_4, T.s8_22, T.sl_22, T.st_22, T.un_22, q0, q3, q4, q5, q6, hv, nb1, nb2]
      exact hU
    · simp (config := { dsimp := false, maxSteps := 10000000 }) (disch := omega) only [go_sem, reduceIte, Nat.reduceEqDiff, reduceCtorEq, Nat.reduceAdd, Nat.reduceMul, Int.reduceToNat, Int.reduceLE, Int.reduceLT, Int.reduceEq, Int.reduceNe, Nat.reduceLeDiff, Int.reducePow, Nat.reducePow, Nat.reduceLT, Nat.reduceSub, Nat.reduceMod, Nat.reduceDiv, slot_neg, slot_pos, T.ag_3, T.es_22, T.gf_13, T.gf_14, T.gf_15, T.gf_16, T.gf_9, T.ib_3, T.ib_4, T.ii_22, T.ip_3, T.ip_4, T.s8_22, T.sl_22, T.st_22, T.un_22, q0, q3, q4, q5, q6, hv, nb1, nb2]
      exact hU
  have hlt3 : ∀ A n st, v = .slice (some A) n st → A.block < H3.next := fun A n st e => Nat.lt_of_lt_of_le (hlt2 A n st e) hU3.1
  have hr3 : RowIn iE H3 v l := hr2.upd fun A n st e => hU3.2 _ (hlt2 A n st e) (by simp)
  clear hlt1 hlt2 hr1 hr2 hr hlt hU hU2 hU3 hs1 hs2 hb1 hb2 hb3 q4 q6
  (refine CodeH.seq' (CodeH.of_vc [] hm (by kernel_rfl) ?_); simp (config := { dsimp := false, maxSteps := 10000000 }) (disch := omega) only [go_sem, reduceIte, Nat.reduceEqDiff, reduceCtorEq, Nat.reduceAdd, Nat.reduceMul, Int.reduceToNat, Int.reduceLE, Int.reduceLT, Int.reduceEq, Int.reduceNe, Nat.reduceLeDiff, Int.reducePow, Nat.reducePow, Nat.reduceLT, Nat.reduceSub, Nat.reduceMod, Nat.reduceDiv, slot_neg, slot_pos, T.ag_3, T.es_22, T.gf_13, T.gf_14, T.gf_15, T.gf_16, T.gf_9, T.ib_3, T.ib_4, T.ii_22, T.ip_3, T.ip_4, T.s8_22, T.sl_22, T.st_22, T.un_22, init_a])
  refine CodeH.seq (fun r H' => r 0 = v ∧ r 3 = .int .i64 (lst (fun x => x) l).1 ∧ r 5 = .int .i64 (lst negHalf l).1 ∧ r 7 = .int .i64 (lst (fun x => x) l).1 ∧ r 8 = .int .i64 (lst negHalf l).1) (CodeH.of_vc [] hm (by kernel_rfl) ?_) fun r H4 ⟨q0, q3, q5, q7, q8⟩ => ?_
  · simp (config := { dsimp := false, maxSteps := 10000000 }) (disch := omega) only [go_sem, reduceIte, Nat.reduceEqDiff, reduceCtorEq, Nat.reduceAdd, Nat.reduceMul, Int.reduceToNat, Int.reduceLE, Int.reduceLT, Int.reduceEq, Int.reduceNe, Nat.reduceLeDiff, Int.reducePow, Nat.reducePow, Nat.reduceLT, Nat.reduceSub, Nat.reduceMod, Nat.reduceDiv, slot_neg, slot_pos, T.ag_3, T.es_22, T.gf_13, T.gf_14, T.gf_15, T.gf_16, T.gf_9, T.ib_3, T.ib_4, T.ii_22, T.ip_3, T.ip_4, T.s8_22, T.sl_22, T.st_22, T.un_22]
    refine loop_intro [] hm (fun r H => H = H3 ∧ ∃ i : Nat, i ≤ l.length ∧ r 0 = v ∧ r 3 = .int .i64 (lst (fun x => x) l).1 ∧ r 5 = .int .i64 (lst negHalf l).1 ∧ r 7 = .int .i64 (lst (fun x => x) (l.take i)).1 ∧ r 8 = .int .i64 (lst negHalf (l.take i)).1 ∧ r 9 = .int .i64 i) (fun r _ => match r 9 with | .int _ i => l.length - i.toNat | _ => 0) ?_ ?_
    · exact ⟨rfl, 0, by omega, by simp [upd, q0], by simp [upd, q3], by simp [upd, q5], by simp [upd]; rfl, by simp [upd]; rfl, by simp [upd]⟩
    · rintro r H ⟨rfl, i, hi, q0, q3, q5, q7, q8, q9⟩
      by_cases hlt : i < l.length
      · have hlt' : ((i : Int) < (l.length : Int)) = True := eq_true (by omega)
        have hx : l[i]? = some l[i] := List.getElem?_eq_getElem hlt
        obtain ⟨q, off, vs, o2, hv', hq, y1, hbd⟩ := row_at hr3 hlt
        have w1 : IntKind.i64.wrap ((i : Int) + 1) = ((i + 1 : Nat) : Int) := by rw [i64wrap] <;> omega
        have t1 := take_next hx
        have z1 := lst_some (fun x => x) (l.take i)
        have z2 := lst_some negHalf (l.take i)
        generalize l[i] = x at hx y1 t1
        have e1 := lst_snoc (fun x => x) (l.take i) x
        have e2 := lst_snoc negHalf (l.take i) x
        rw [← t1] at e1 e2
        rw [hv'] at q0
        by_cases c0 : i = 0
        · have c0' : ((i : Int) = 0) = True := eq_true (by omega)
          rw [show l.take i = [] by rw [c0]; rfl] at e1 e2
          simp (config := { dsimp := false, maxSteps := 10000000 }) (disch := omega) only [go_sem, reduceIte, Nat.reduceEqDiff, reduceCtorEq, Nat.reduceAdd, Nat.reduceMul, Int.reduceToNat, Int.reduceLE, Int.reduceLT, Int.reduceEq, Int.reduceNe, Nat.reduceLeDiff, Int.reducePow, Nat.reducePow, Nat.reduceLT, Nat.reduceSub, Nat.reduceMod, Nat.reduceDiv, slot_neg, slot_pos, T.ag_3, T.es_22, T.gf_13, T.gf_14, T.gf_15, T.gf_16, T.gf_9, T.ib_3, T.ib_4, T.ii_22, T.ip_3, T.ip_4, T.s8_22, T.sl_22, T.st_22, T.un_22, q0, q7, q8, q9, c0', hlt', hq, y1, w1, nh_eq]
          exact ⟨⟨i + 1, hlt, hv'.symm, q3, q5, by rw [e1]; rfl, by rw [e2]; rfl, rfl⟩, by omega⟩
        · have c0' : ((i : Int) = 0) = False := eq_false (by omega)
          have hne : decide (l.take i ≠ []) = true := by
            rw [decide_eq_true_eq]
            intro h9
            have := congrArg List.length h9
            rw [List.length_take, List.length_nil] at this
            omega
          rw [hne] at z1 z2
          generalize lst (fun x => x) (l.take i) = S1 at *
          generalize lst negHalf (l.take i) = S2 at *
          obtain ⟨b1, s1⟩ := S1
          obtain ⟨b2, s2⟩ := S2
          subst z1 z2
          simp only [lstep, Bool.true_eq_false, false_or] at e1 e2
          by_cases c1 : x < b1 <;> by_cases c2 : negHalf x < b2
          · have c1' : (x < b1) = True := eq_true c1
            have c2' : (negHalf x < b2) = True := eq_true c2
            simp (config := { dsimp := false, maxSteps := 10000000 }) (disch := omega) only [go_sem, reduceIte, Nat.reduceEqDiff, reduceCtorEq, Nat.reduceAdd, Nat.reduceMul, Int.reduceToNat, Int.reduceLE, Int.reduceLT, Int.reduceEq, Int.reduceNe, Nat.reduceLeDiff, Int.reducePow, Nat.reducePow, Nat.reduceLT, Nat.reduceSub, Nat.reduceMod, Nat.reduceDiv, slot_neg, slot_pos, T.ag_3, T.es_22, T.gf_13, T.gf_14, T.gf_15, T.gf_16, T.gf_9, T.ib_3, T.ib_4, T.ii_22, T.ip_3, T.ip_4, T.s8_22, T.sl_22, T.st_22, T.un_22, q0, q7, q8, q9, c0', hlt', hq, y1, w1, nh_eq, c1', c2']
            exact ⟨⟨i + 1, hlt, hv'.symm, q3, q5, by rw [e1]; simp [c1], by rw [e2]; simp [c2], rfl⟩, by omega⟩
          · have c1' : (x < b1) = True := eq_true c1
            have c2' : (negHalf x < b2) = False := eq_false c2
            simp (config := { dsimp := false, maxSteps := 10000000 }) (disch := omega) only [go_sem, reduceIte, Nat.reduceEqDiff, reduceCtorEq, Nat.reduceAdd, Nat.reduceMul, Int.reduceToNat, Int.reduceLE, Int.reduceLT, Int.reduceEq, Int.reduceNe, Nat.reduceLeDiff, Int.reducePow, Nat.reducePow, Nat.reduceLT, Nat.reduceSub, Nat.reduceMod, Nat.reduceDiv, slot_neg, slot_pos, T.ag_3, T.es_22, T.gf_13, T.gf_14, T.gf_15, T.gf_16, T.gf_9, T.ib_3, T.ib_4, T.ii_22, T.ip_3, T.ip_4, T.s8_22, T.sl_22, T.st_22, T.un_22, q0, q7, q8, q9, c0', hlt', hq, y1, w1, nh_eq, c1', c2']
            exact ⟨⟨i + 1, hlt, hv'.symm, q3, q5, by rw [e1]; simp [c1], by rw [e2]; simp [c2], rfl⟩, by omega⟩
          · have c1' : (x < b1) = False := eq_false c1
            have c2' : (negHalf x < b2) = True := eq_true c2
            simp (config := { dsimp := false, maxSteps := 10000000 }) (disch := omega) only [go_sem, reduceIte, Nat.reduceEqDiff, reduceCtorEq, Nat.reduceAdd, Nat.reduceMul, Int.reduceToNat, Int.reduceLE, Int.reduceLT, Int.reduceEq, Int.reduceNe, Nat.reduceLeDiff, Int.reducePow, Nat.reducePow, Nat.reduceLT, Nat.reduceSub, Nat.reduceMod, Nat.reduceDiv, slot_neg, slot_pos, T.ag_3, T.es_22, T.gf_13, T.gf_14, T.gf_15, T.gf_16, T.gf_9, T.ib_3, T.ib_4, T.ii_22, T.ip_3, T.ip_4, T.s8_22, T.sl_22, T.st_22, T.un_22, q0, q7, q8, q9, c0', hlt', hq, y1, w1, nh_eq, c1', c2']
            exact ⟨⟨i + 1, hlt, hv'.symm, q3, q5, by rw [e1]; simp [c1], by rw [e2]; simp [c2], rfl⟩, by omega⟩
          · have c1' : (x < b1) = False := eq_false c1
            have c2' : (negHalf x < b2) = False := eq_false c2
            simp (config := { dsimp := false, maxSteps := 10000000 }) (disch := omega) only [go_sem, reduceIte, Nat.reduceEqDiff, reduceCtorEq, Nat.reduceAdd, Nat.reduceMul, Int.reduceToNat, Int.reduceLE, Int.reduceLT, Int.reduceEq, Int.reduceNe, Nat.reduceLeDiff, Int.reducePow, Nat.reducePow, Nat.reduceLT, Nat.reduceSub, Nat.reduceMod, Nat.reduceDiv, slot_neg, slot_pos, T.ag_3, T.es_22, T.gf_13, T.gf_14, T.gf_15, T.gf_16, T.gf_9, T.ib_3, T.ib_4, T.ii_22, T.ip_3, T.ip_4, T.s8_22, T.sl_22, T.st_22, T.un_22, q0, q7, q8, q9, c0', hlt', hq, y1, w1, nh_eq, c1', c2']
            exact ⟨⟨i + 1, hlt, hv'.symm, q3, q5, by rw [e1]; simp [c1], by rw [e2]; simp [c2], rfl⟩, by omega⟩
      · have hlt' : ((i : Int) < (l.length : Int)) = False := eq_false (by omega)
        obtain rfl : i = l.length := by omega
        rw [List.take_length] at q7 q8
        rw [hv] at q0
        simp (config := { dsimp := false, maxSteps := 10000000 }) (disch := omega) only [go_sem, reduceIte, Nat.reduceEqDiff, reduceCtorEq, Nat.reduceAdd, Nat.reduceMul, Int.reduceToNat, Int.reduceLE, Int.reduceLT, Int.reduceEq, Int.reduceNe, Nat.reduceLeDiff, Int.reducePow, Nat.reducePow, Nat.reduceLT, Nat.reduceSub, Nat.reduceMod, Nat.reduceDiv, slot_neg, slot_pos, T.ag_3, T.es_22, T.gf_13, T.gf_14, T.gf_15, T.gf_16, T.gf_9, T.ib_3, T.ib_4, T.ii_22, T.ip_3, T.ip_4, T.s8_22, T.sl_22, T.st_22, T.un_22, q0, q9, hlt']
        exact ⟨hv.symm, q3, q5, q7, q8⟩
  (refine CodeH.of_vc [] hm (by kernel_rfl) ?_; simp (config := { dsimp := false, maxSteps := 10000000 }) (disch := omega) only [go_sem, reduceIte, Nat.reduceEqDiff, reduceCtorEq, Nat.reduceAdd, Nat.reduceMul, Int.reduceToNat, Int.reduceLE, Int.reduceLT, Int.reduceEq, Int.reduceNe, Nat.reduceLeDiff, Int.reducePow, Nat.reducePow, Nat.reduceLT, Nat.reduceSub, Nat.reduceMod, Nat.reduceDiv, slot_neg, slot_pos, T.ag_3, T.es_22, T.gf_13, T.gf_14, T.gf_15, T.gf_16, T.gf_9, T.ib_3, T.ib_4, T.ii_22, T.ip_3, T.ip_4, T.s8_22, T.sl_22, T.st_22, T.un_22, init_a, q3, q5, q7, q8])
end Ph
