import Derived.Test.YthghohhaagkbnaaC16
set_option maxRecDepth 100000
set_option maxHeartbeats 4000000
set_option linter.unusedSimpArgs false
set_option linter.unusedVariables false
namespace Ph
open Go Go.Proofs
attribute [local irreducible] Value.cells
attribute [local go_sem ↓] y_move y_assign y_pick y_nil y_bin y_un y_fa y_field y_ext y_ia y_ix y_slice y_build y_mf y_rg y_nx y_en y_mm y_lk y_mu y_del y_load y_len y_min y_max y_conv y_bs y_mk y_alloc y_box y_store y_clear y_app y_callf y_callt s_move s_assign s_pick s_nil s_bin s_un s_fa s_field s_ext s_ia s_ix s_slice s_conv s_build s_bs s_mf s_alloc s_box s_rg s_nx s_en s_mm s_lk s_mu s_del s_load s_store s_len s_clear s_min s_max s_app s_call q_call q_move q_assign q_pick q_nil q_bin q_un q_fa q_field q_ext q_ia q_ix q_slice q_conv q_build q_mf q_lk q_load q_len q_min q_max l_nil l_move l_assign l_pick l_nilc l_bin l_un l_fa l_field l_ext l_ia l_ix l_slice l_conv l_build l_mf l_lk l_load l_len l_min l_max l_call put_eq putN_eq o_nil o_plain o_gate v_nil v_plain v_gate vc_skip vc_region vc_seq vc_cond vc_block vc_loop vc_rf vc_exit vc_ret blk_normal blk_ret blk_exit on_normal on_ret on_exit vc_drawn draw_q s_mk l_bs l_mk l_rg l_nx l_en l_mm l_mu l_del l_alloc l_box l_store l_app l_clear pl_done pl_takeS pl_take pl_alt pl_stop one_plain one_gate
attribute [local go_sem] clear_nil clear_sl onAgg_a onTuple_t onFn_f onFn_y onFunc_f c_int c_nil c_sl c_str sl_sl sl_nil sl_str ix_str ix_agg n_nil n_sl n_str app_eq k_nil k_sl len_sl len_str len_mn len_m onMap_m onIter_i rg_n rg_m nx_p en_p lk_n lk_m up_m setM_n setM_s del_n del_m kt_s kt_i upd_some upd_none ev_tmp ev_const ev_func rd_some gdst_eq otmp_t otmp_c get_put get_alloc next_put next_alloc get_app next_app init_a resV1 resV2 onPtr_ptr onBool_b onInt_i onSlice_s onSome_s onCells_c lett_eq gate_tt gate_tf gate_ff gate_ft gate_dt gate_df also_eq bin un minmax io_none io_some bo_none bo_some partOf List.getElem?_cons_zero List.getElem?_cons_succ List.getElem?_toArray Option.map_some Option.map_none Option.bind_some ne_eq not_true_eq_false not_false_eq_true false_implies true_implies and_true true_and and_self Bool.false_eq_true Nat.zero_add Nat.add_zero List.size_toArray List.length_cons List.length_nil List.map_toArray List.map_cons List.map_nil Array.getD_eq_getD_getElem? Option.getD_some Bool.not_true Bool.not_false Bool.not_eq_true Option.isNone_some Option.isNone_none List.append_toArray List.append_nil List.nil_append List.cons_append decide_true decide_false in_nil in_cons Bool.and_false Bool.and_true Bool.or_false Bool.true_or Bool.false_or get_mask next_mask get_unmask next_unmask ac_move ac_assign ac_pick ac_nil ac_bin ac_un ac_fa ac_field ac_ext ac_ia ac_ix ac_slice ac_build ac_mf ac_call ac_len ac_lk ac_min ac_max accM_m accM_n accM_s accM_t ac_load ac_conv accP_p accS_s accS_n accS_i accS_t fixed_ro fixed_lock fixed_own get_ro next_ro lock_live' lock_cells List.mem_cons List.not_mem_nil or_false false_or or_true true_or and_false false_and IntKind.bits Int.natCast_zero Int.natCast_one size_str data_str list_str mk_str ext_str app_str bytes_str w_byte w_byteu Int.toNat_natCast Int.toNat_zero Int.toNat_one Nat.sub_zero ge_iff_le gt_iff_lt Nat.le_refl Int.le_refl List.drop_zero Int.ofNat_eq_natCast Int.natCast_nonneg Int.sub_zero oc_int oc_bool oc_str oc_ptr oc_sl oc_map oc_func List.set_cons_zero List.set_cons_succ Nat.mul_one List.all_cons List.all_nil Bool.and_self res_nil res_tmp res_cell tup_one tup_two tup_nil fill_nil repl_zero cells_agg List.append_eq List.toList_toArray Nat.zero_mul Nat.one_mul repl_one repl_two onSome_build fill_cons onSome_lit splice_eq cells_int cells_bool cells_str cells_ptr cells_sl cells_map cells_func loadK_n loadK_s load_k storeK_n storeK_s store_k all_arr List.take_zero List.take_succ_cons List.drop_succ_cons List.take_nil List.drop_nil lk_own lk_ro lk_lock lk_lk fixed_lk gate_nt gate_nf gate3_b gate3_u undef Bool.true_and Bool.false_and nx_l nx_r nx_lt put_put resV0
/-! CacheTurns. -/
theorem none_ph (h : Heap) : @CallsH Try.prog 28 #[] h ⟨fun u H => u = .pointer none ∧ H = h⟩ := by
  (refine calls_of_vc [] hm Try.func28 rfl (ts := [0]) rfl (by kernel_rfl) (by simp) ?_; simp (config := { dsimp := false }) only [go_sem, reduceIte, Nat.reduceEqDiff, reduceCtorEq, Nat.reduceAdd, Nat.reduceMul, Int.reduceToNat, Int.reduceLE, Int.reduceLT, Int.reduceEq, Int.reduceNe, Nat.reduceLeDiff, Int.reducePow, Nat.reducePow, Nat.reduceLT, Nat.reduceSub, Nat.reduceMod, Nat.reduceDiv, init_a])
theorem NewE_ph (h : Heap) (most : Int) (hb : most < 1 ∨ 10000 < most) : @CallsH Try.prog 34 #[.int .i64 most] h ⟨fun u H => u = .tuple #[.pointer none, .int .i64 1] ∧ H = h⟩ := by
  by_cases c1 : most < 1
  · (refine calls_of_vc [] hm Try.func34 rfl (ts := [2, 3]) rfl (by kernel_rfl) (by simp) ?_; simp (config := { dsimp := false, maxSteps := 10000000 }) (disch := omega) only [go_sem, reduceIte, Nat.reduceEqDiff, reduceCtorEq, Nat.reduceAdd, Nat.reduceMul, Int.reduceToNat, Int.reduceLE, Int.reduceLT, Int.reduceEq, Int.reduceNe, Nat.reduceLeDiff, Int.reducePow, Nat.reducePow, Nat.reduceLT, Nat.reduceSub, Nat.reduceMod, Nat.reduceDiv, slot_neg, slot_pos, T.ib_3, T.ip_3, T.pl_138, T.zo_138, init_a, c1])
  · have c2 : 10000 < most := by omega
    (refine calls_of_vc [] hm Try.func34 rfl (ts := [2, 3]) rfl (by kernel_rfl) (by simp) ?_; simp (config := { dsimp := false, maxSteps := 10000000 }) (disch := omega) only [go_sem, reduceIte, Nat.reduceEqDiff, reduceCtorEq, Nat.reduceAdd, Nat.reduceMul, Int.reduceToNat, Int.reduceLE, Int.reduceLT, Int.reduceEq, Int.reduceNe, Nat.reduceLeDiff, Int.reducePow, Nat.reducePow, Nat.reduceLT, Nat.reduceSub, Nat.reduceMod, Nat.reduceDiv, slot_neg, slot_pos, T.ib_3, T.ip_3, T.pl_138, T.zo_138, init_a, c1, c2])
theorem row_te {h : Heap} {v : Value} {l : List Th} (hr : RowIn tE h v l) {i : Nat} {x : Th} (hx : l[i]? = some x) : ∃ q off vs o, v = .slice (some ⟨q, off, none⟩) l.length 3 ∧ h.get q = .live (.cells vs o) ∧ vs[off + i * 3]? = some x.key ∧ vs[off + i * 3 + 1]? = some x.val := by
  rcases hr with ⟨_, hnil⟩ | ⟨q, off, vs, o, hv, hq, hR⟩
  · rw [hnil] at hx; simp at hx
  · exact ⟨q, off, vs, o, hv, hq, hR.cell hx (j := 0) (by decide), hR.cell hx (j := 1) (by decide)⟩
/-- behind two calls in a region that draws -/
theorem pair_out {h0 Hv H2 H3 : Heap} {wr : List Nat} {p id m b : Nat} {D D3 : List Nat} {v v3 : Value} {c c' : Ca} {cell : Slot} (hTv : TT Hv p id m D v c) (hwr : p :: id :: m :: D = wr) (hbw : b ∉ wr) (hbn : b < Hv.next) (gv : Hv.get b = cell) (hUv : Upd h0 Hv []) (hge : ∀ d ∈ wr, h0.next ≤ d) (hb0 : h0.next ≤ b)
    (k1 : CaR isStrV H2 p id c') (k2 : Upd (Hv.mask wr) H2 [p, id]) (k3 : RfR H3 m D3 v3 c') (k4 : ∀ d ∈ D3, d ∈ D ∨ H2.next ≤ d) (k5 : Upd H2 H3 [m]) (hok : CaOk c') (hst : strKeys c') (hin : intVals c') :
    (Hv.unmask wr H3).get b = cell ∧ b < (Hv.unmask wr H3).next ∧ Upd h0 (Hv.unmask wr H3) [] ∧ TT (Hv.unmask wr H3) p id m D3 v3 c' ∧ ∀ d ∈ D3, h0.next ≤ d ∧ d ≠ b := by
  have n2 : Hv.next ≤ H2.next := k2.1
  have n3 := k5.1
  have hwp : p ∈ wr := by rw [← hwr]; simp
  have hwi : id ∈ wr := by rw [← hwr]; simp
  have hwm : m ∈ wr := by rw [← hwr]; simp
  have hwD : ∀ d ∈ D, d ∈ wr := fun d hd => by rw [← hwr]; simp [hd]
  have hv0 := hUv.1
  have hpv := hTv.ca.lt
  have hiv := hTv.ca.map.elim fun cl hM => hM.lt
  refine ⟨by rw [get_unmask, if_pos ⟨hbn, hbw⟩]; exact gv, by rw [next_unmask]; omega, hUv.unmask (by omega) fun w hw => .inr (hge w hw), ⟨CaR.unmask (k1.upd k5 (by simp; exact hTv.mp.symm) (by simp; exact hTv.mi.symm)) hwp hwi, k3.unmask hwm fun d hd => ?_, hok, hst, hin, hTv.mp, hTv.mi, fun hd => ?_, fun hd => ?_⟩, fun d hd => ?_⟩
  · rcases k4 d hd with h1 | h1
    · exact .inl (hwD d h1)
    · exact .inr (by omega)
  · rcases k4 p hd with h1 | h1
    · exact hTv.pD h1
    · omega
  · rcases k4 id hd with h1 | h1
    · exact hTv.iD h1
    · omega
  · rcases k4 d hd with h1 | h1
    · exact ⟨hge d (hwD d h1), fun e => hbw (e ▸ hwD d h1)⟩
    · exact ⟨by omega, by omega⟩
theorem CacheTurns_ph (h : Heap) (x0 : Int) (l1 : (List (Int × (List UInt8) × Int × Int × Int))) (s1 : Value) (hs1 : SlR (Rd.pair (Rd.int .i64) (Rd.pair Rd.str (Rd.pair (Rd.int .i64) (Rd.pair (Rd.int .i64) (Rd.int .i64))))) h s1 l1) (wf0 : (Lit.int .i64 x0).wf = true) (wf1 : (l1.length ≤ maxLen ∧ ∀ x ∈ l1, ((Lit.int .i64 x.1).wf = true ∧ x.2.1.length ≤ maxLen ∧ (Lit.int .i64 x.2.2.1).wf = true ∧ (Lit.int .i64 x.2.2.2.1).wf = true ∧ (Lit.int .i64 x.2.2.2.2).wf = true))) :
    @CallsH Try.prog 7 #[.int .i64 x0, s1] h ⟨fun u _ => u = .bool true⟩ := by
  obtain ⟨hr0, hlt0⟩ := tu_row hs1
  clear hs1 wf0 wf1
  (refine calls_of_codeR (rs := [.tmp 4]) Try.func7 rfl rfl (by simp) ?_)
  (refine CodeH.seq' (CodeH.of_vc [] hm (by kernel_rfl) ?_); simp (config := { dsimp := false, maxSteps := 10000000 }) (disch := omega) only [go_sem, reduceIte, Nat.reduceEqDiff, reduceCtorEq, Nat.reduceAdd, Nat.reduceMul, Int.reduceToNat, Int.reduceLE, Int.reduceLT, Int.reduceEq, Int.reduceNe, Nat.reduceLeDiff, Int.reducePow, Nat.reducePow, Nat.reduceLT, Nat.reduceSub, Nat.reduceMod, Nat.reduceDiv, slot_neg, slot_pos, T.ag_3, T.ag_79, T.ag_9, T.es_65, T.es_71, T.fo_79_0, T.fo_79_1, T.fo_79_2, T.fo_79_3, T.fo_79_4, T.fo_82_0, T.fo_82_1, T.gf_28, T.gf_29, T.gf_30, T.gf_31, T.gf_32, T.gf_33, T.gf_34, T.gf_35, T.gf_36, T.gf_37, T.gf_38, T.gf_9, T.ib_25, T.ib_3, T.ib_4, T.ib_66, T.ib_9, T.ii_65, T.ii_71, T.ip_25, T.ip_3, T.ip_4, T.ip_66, T.ip_9, T.pl_77, T.s8_65, T.s8_71, T.sl_65, T.sl_71, T.st_65, T.st_71, T.un_65, T.un_71, T.zo_77, T.zo_79, init_a])
  (refine CodeH.seq' (CodeH.of_vc [] hm (by kernel_rfl) ?_); simp (config := { dsimp := false, maxSteps := 10000000 }) (disch := omega) only [go_sem, reduceIte, Nat.reduceEqDiff, reduceCtorEq, Nat.reduceAdd, Nat.reduceMul, Int.reduceToNat, Int.reduceLE, Int.reduceLT, Int.reduceEq, Int.reduceNe, Nat.reduceLeDiff, Int.reducePow, Nat.reducePow, Nat.reduceLT, Nat.reduceSub, Nat.reduceMod, Nat.reduceDiv, slot_neg, slot_pos, T.ag_3, T.ag_79, T.ag_9, T.es_65, T.es_71, T.fo_79_0, T.fo_79_1, T.fo_79_2, T.fo_79_3, T.fo_79_4, T.fo_82_0, T.fo_82_1, T.gf_28, T.gf_29, T.gf_30, T.gf_31, T.gf_32, T.gf_33, T.gf_34, T.gf_35, T.gf_36, T.gf_37, T.gf_38, T.gf_9, T.ib_25, T.ib_3, T.ib_4, T.ib_66, T.ib_9, T.ii_65, T.ii_71, T.ip_25, T.ip_3, T.ip_4, T.ip_66, T.ip_9, T.pl_77, T.s8_65, T.s8_71, T.sl_65, T.sl_71, T.st_65, T.st_71, T.un_65, T.un_71, T.zo_77, T.zo_79, init_a])
  refine (none_ph _).mono fun u H ⟨hu, hH⟩ => ?_
  have hH' := hH.symm
  subst hu hH'
  simp (config := { dsimp := false, maxSteps := 10000000 }) (disch := omega) only [go_sem, reduceIte, Nat.reduceEqDiff, reduceCtorEq, Nat.reduceAdd, Nat.reduceMul, Int.reduceToNat, Int.reduceLE, Int.reduceLT, Int.reduceEq, Int.reduceNe, Nat.reduceLeDiff, Int.reducePow, Nat.reducePow, Nat.reduceLT, Nat.reduceSub, Nat.reduceMod, Nat.reduceDiv, slot_neg, slot_pos, T.ag_3, T.ag_79, T.ag_9, T.es_65, T.es_71, T.fo_79_0, T.fo_79_1, T.fo_79_2, T.fo_79_3, T.fo_79_4, T.fo_82_0, T.fo_82_1, T.gf_28, T.gf_29, T.gf_30, T.gf_31, T.gf_32, T.gf_33, T.gf_34, T.gf_35, T.gf_36, T.gf_37, T.gf_38, T.gf_9, T.ib_25, T.ib_3, T.ib_4, T.ib_66, T.ib_9, T.ii_65, T.ii_71, T.ip_25, T.ip_3, T.ip_4, T.ip_66, T.ip_9, T.pl_77, T.s8_65, T.s8_71, T.sl_65, T.sl_71, T.st_65, T.st_71, T.un_65, T.un_71, T.zo_77, T.zo_79]
  refine (GetN_ph _ _ _).mono fun u H1 ⟨hu, hU⟩ => ?_
  subst hu
  simp (config := { dsimp := false, maxSteps := 10000000 }) (disch := omega) only [go_sem, reduceIte, Nat.reduceEqDiff, reduceCtorEq, Nat.reduceAdd, Nat.reduceMul, Int.reduceToNat, Int.reduceLE, Int.reduceLT, Int.reduceEq, Int.reduceNe, Nat.reduceLeDiff, Int.reducePow, Nat.reducePow, Nat.reduceLT, Nat.reduceSub, Nat.reduceMod, Nat.reduceDiv, slot_neg, slot_pos, T.ag_3, T.ag_79, T.ag_9, T.es_65, T.es_71, T.fo_79_0, T.fo_79_1, T.fo_79_2, T.fo_79_3, T.fo_79_4, T.fo_82_0, T.fo_82_1, T.gf_28, T.gf_29, T.gf_30, T.gf_31, T.gf_32, T.gf_33, T.gf_34, T.gf_35, T.gf_36, T.gf_37, T.gf_38, T.gf_9, T.ib_25, T.ib_3, T.ib_4, T.ib_66, T.ib_9, T.ii_65, T.ii_71, T.ip_25, T.ip_3, T.ip_4, T.ip_66, T.ip_9, T.pl_77, T.s8_65, T.s8_71, T.sl_65, T.sl_71, T.st_65, T.st_71, T.un_65, T.un_71, T.zo_77, T.zo_79]
  refine CodeH.seq (fun r H' => Upd H1 H' [] ∧ r 0 = .int .i64 x0 ∧ r 1 = s1) (CodeH.of_vc [] hm (by kernel_rfl) ?_) fun r H2 ⟨hU2, q0, q1⟩ => ?_
  · simp (config := { dsimp := false, maxSteps := 10000000 }) (disch := omega) only [go_sem, reduceIte, Nat.reduceEqDiff, reduceCtorEq, Nat.reduceAdd, Nat.reduceMul, Int.reduceToNat, Int.reduceLE, Int.reduceLT, Int.reduceEq, Int.reduceNe, Nat.reduceLeDiff, Int.reducePow, Nat.reducePow, Nat.reduceLT, Nat.reduceSub, Nat.reduceMod, Nat.reduceDiv, slot_neg, slot_pos, T.ag_3, T.ag_79, T.ag_9, T.es_65, T.es_71, T.fo_79_0, T.fo_79_1, T.fo_79_2, T.fo_79_3, T.fo_79_4, T.fo_82_0, T.fo_82_1, T.gf_28, T.gf_29, T.gf_30, T.gf_31, T.gf_32, T.gf_33, T.gf_34, T.gf_35, T.gf_36, T.gf_37, T.gf_38, T.gf_9, T.ib_25, T.ib_3, T.ib_4, T.ib_66, T.ib_9, T.ii_65, T.ii_71, T.ip_25, T.ip_3, T.ip_4, T.ip_66, T.ip_9, T.pl_77, T.s8_65, T.s8_71, T.sl_65, T.sl_71, T.st_65, T.st_71, T.un_65, T.un_71, T.zo_77, T.zo_79, init_a]
    refine (keeps_ph _).mono fun u H ⟨hu, hU⟩ => ?_
    subst hu
    simp (config := { dsimp := false, maxSteps := 10000000 }) (disch := omega) only [go_sem, reduceIte, Nat.reduceEqDiff, reduceCtorEq, Nat.reduceAdd, Nat.reduceMul, Int.reduceToNat, Int.reduceLE, Int.reduceLT, Int.reduceEq, Int.reduceNe, Nat.reduceLeDiff, Int.reducePow, Nat.reducePow, Nat.reduceLT, Nat.reduceSub, Nat.reduceMod, Nat.reduceDiv, slot_neg, slot_pos, T.ag_3, T.ag_79, T.ag_9, T.es_65, T.es_71, T.fo_79_0, T.fo_79_1, T.fo_79_2, T.fo_79_3, T.fo_79_4, T.fo_82_0, T.fo_82_1, T.gf_28, T.gf_29, T.gf_30, T.gf_31, T.gf_32, T.gf_33, T.gf_34, T.gf_35, T.gf_36, T.gf_37, T.gf_38, T.gf_9, T.ib_25, T.ib_3, T.ib_4, T.ib_66, T.ib_9, T.ii_65, T.ii_71, T.ip_25, T.ip_3, T.ip_4, T.ip_66, T.ip_9, T.pl_77, T.s8_65, T.s8_71, T.sl_65, T.sl_71, T.st_65, T.st_71, T.un_65, T.un_71, T.zo_77, T.zo_79, init_a]
    refine (none_ph _).mono fun u H ⟨hu, hH⟩ => ?_
    subst hu hH
    simp (config := { dsimp := false, maxSteps := 10000000 }) (disch := omega) only [go_sem, reduceIte, Nat.reduceEqDiff, reduceCtorEq, Nat.reduceAdd, Nat.reduceMul, Int.reduceToNat, Int.reduceLE, Int.reduceLT, Int.reduceEq, Int.reduceNe, Nat.reduceLeDiff, Int.reducePow, Nat.reducePow, Nat.reduceLT, Nat.reduceSub, Nat.reduceMod, Nat.reduceDiv, slot_neg, slot_pos, T.ag_3, T.ag_79, T.ag_9, T.es_65, T.es_71, T.fo_79_0, T.fo_79_1, T.fo_79_2, T.fo_79_3, T.fo_79_4, T.fo_82_0, T.fo_82_1, T.gf_28, T.gf_29, T.gf_30, T.gf_31, T.gf_32, T.gf_33, T.gf_34, T.gf_35, T.gf_36, T.gf_37, T.gf_38, T.gf_9, T.ib_25, T.ib_3, T.ib_4, T.ib_66, T.ib_9, T.ii_65, T.ii_71, T.ip_25, T.ip_3, T.ip_4, T.ip_66, T.ip_9, T.pl_77, T.s8_65, T.s8_71, T.sl_65, T.sl_71, T.st_65, T.st_71, T.un_65, T.un_71, T.zo_77, T.zo_79, init_a]
    refine (PutES_ph _ _ _ _ _ _ (.inl rfl)).mono fun u H ⟨hu, hH⟩ => ?_
    subst hu hH
    simp (config := { dsimp := false, maxSteps := 10000000 }) (disch := omega) only [go_sem, reduceIte, Nat.reduceEqDiff, reduceCtorEq, Nat.reduceAdd, Nat.reduceMul, Int.reduceToNat, Int.reduceLE, Int.reduceLT, Int.reduceEq, Int.reduceNe, Nat.reduceLeDiff, Int.reducePow, Nat.reducePow, Nat.reduceLT, Nat.reduceSub, Nat.reduceMod, Nat.reduceDiv, slot_neg, slot_pos, T.ag_3, T.ag_79, T.ag_9, T.es_65, T.es_71, T.fo_79_0, T.fo_79_1, T.fo_79_2, T.fo_79_3, T.fo_79_4, T.fo_82_0, T.fo_82_1, T.gf_28, T.gf_29, T.gf_30, T.gf_31, T.gf_32, T.gf_33, T.gf_34, T.gf_35, T.gf_36, T.gf_37, T.gf_38, T.gf_9, T.ib_25, T.ib_3, T.ib_4, T.ib_66, T.ib_9, T.ii_65, T.ii_71, T.ip_25, T.ip_3, T.ip_4, T.ip_66, T.ip_9, T.pl_77, T.s8_65, T.s8_71, T.sl_65, T.sl_71, T.st_65, T.st_71, T.un_65, T.un_71, T.zo_77, T.zo_79, init_a]
    refine (none_ph _).mono fun u H ⟨hu, hH⟩ => ?_
    subst hu hH
    simp (config := { dsimp := false, maxSteps := 10000000 }) (disch := omega) only [go_sem, reduceIte, Nat.reduceEqDiff, reduceCtorEq, Nat.reduceAdd, Nat.reduceMul, Int.reduceToNat, Int.reduceLE, Int.reduceLT, Int.reduceEq, Int.reduceNe, Nat.reduceLeDiff, Int.reducePow, Nat.reducePow, Nat.reduceLT, Nat.reduceSub, Nat.reduceMod, Nat.reduceDiv, slot_neg, slot_pos, T.ag_3, T.ag_79, T.ag_9, T.es_65, T.es_71, T.fo_79_0, T.fo_79_1, T.fo_79_2, T.fo_79_3, T.fo_79_4, T.fo_82_0, T.fo_82_1, T.gf_28, T.gf_29, T.gf_30, T.gf_31, T.gf_32, T.gf_33, T.gf_34, T.gf_35, T.gf_36, T.gf_37, T.gf_38, T.gf_9, T.ib_25, T.ib_3, T.ib_4, T.ib_66, T.ib_9, T.ii_65, T.ii_71, T.ip_25, T.ip_3, T.ip_4, T.ip_66, T.ip_9, T.pl_77, T.s8_65, T.s8_71, T.sl_65, T.sl_71, T.st_65, T.st_71, T.un_65, T.un_71, T.zo_77, T.zo_79, init_a]
    refine (CountN_ph _ _).mono fun u H ⟨hu, hH⟩ => ?_
    subst hu hH
    simp (config := { dsimp := false, maxSteps := 10000000 }) (disch := omega) only [go_sem, reduceIte, Nat.reduceEqDiff, reduceCtorEq, Nat.reduceAdd, Nat.reduceMul, Int.reduceToNat, Int.reduceLE, Int.reduceLT, Int.reduceEq, Int.reduceNe, Nat.reduceLeDiff, Int.reducePow, Nat.reducePow, Nat.reduceLT, Nat.reduceSub, Nat.reduceMod, Nat.reduceDiv, slot_neg, slot_pos, T.ag_3, T.ag_79, T.ag_9, T.es_65, T.es_71, T.fo_79_0, T.fo_79_1, T.fo_79_2, T.fo_79_3, T.fo_79_4, T.fo_82_0, T.fo_82_1, T.gf_28, T.gf_29, T.gf_30, T.gf_31, T.gf_32, T.gf_33, T.gf_34, T.gf_35, T.gf_36, T.gf_37, T.gf_38, T.gf_9, T.ib_25, T.ib_3, T.ib_4, T.ib_66, T.ib_9, T.ii_65, T.ii_71, T.ip_25, T.ip_3, T.ip_4, T.ip_66, T.ip_9, T.pl_77, T.s8_65, T.s8_71, T.sl_65, T.sl_71, T.st_65, T.st_71, T.un_65, T.un_71, T.zo_77, T.zo_79, init_a]
    refine (none_ph _).mono fun u H ⟨hu, hH⟩ => ?_
    subst hu hH
    simp (config := { dsimp := false, maxSteps := 10000000 }) (disch := omega) only [go_sem, reduceIte, Nat.reduceEqDiff, reduceCtorEq, Nat.reduceAdd, Nat.reduceMul, Int.reduceToNat, Int.reduceLE, Int.reduceLT, Int.reduceEq, Int.reduceNe, Nat.reduceLeDiff, Int.reducePow, Nat.reducePow, Nat.reduceLT, Nat.reduceSub, Nat.reduceMod, Nat.reduceDiv, slot_neg, slot_pos, T.ag_3, T.ag_79, T.ag_9, T.es_65, T.es_71, T.fo_79_0, T.fo_79_1, T.fo_79_2, T.fo_79_3, T.fo_79_4, T.fo_82_0, T.fo_82_1, T.gf_28, T.gf_29, T.gf_30, T.gf_31, T.gf_32, T.gf_33, T.gf_34, T.gf_35, T.gf_36, T.gf_37, T.gf_38, T.gf_9, T.ib_25, T.ib_3, T.ib_4, T.ib_66, T.ib_9, T.ii_65, T.ii_71, T.ip_25, T.ip_3, T.ip_4, T.ip_66, T.ip_9, T.pl_77, T.s8_65, T.s8_71, T.sl_65, T.sl_71, T.st_65, T.st_71, T.un_65, T.un_71, T.zo_77, T.zo_79, init_a]
    refine (DropN_ph _ _ _).mono fun u H ⟨hu, hH⟩ => ?_
    subst hu hH
    simp (config := { dsimp := false, maxSteps := 10000000 }) (disch := omega) only [go_sem, reduceIte, Nat.reduceEqDiff, reduceCtorEq, Nat.reduceAdd, Nat.reduceMul, Int.reduceToNat, Int.reduceLE, Int.reduceLT, Int.reduceEq, Int.reduceNe, Nat.reduceLeDiff, Int.reducePow, Nat.reducePow, Nat.reduceLT, Nat.reduceSub, Nat.reduceMod, Nat.reduceDiv, slot_neg, slot_pos, T.ag_3, T.ag_79, T.ag_9, T.es_65, T.es_71, T.fo_79_0, T.fo_79_1, T.fo_79_2, T.fo_79_3, T.fo_79_4, T.fo_82_0, T.fo_82_1, T.gf_28, T.gf_29, T.gf_30, T.gf_31, T.gf_32, T.gf_33, T.gf_34, T.gf_35, T.gf_36, T.gf_37, T.gf_38, T.gf_9, T.ib_25, T.ib_3, T.ib_4, T.ib_66, T.ib_9, T.ii_65, T.ii_71, T.ip_25, T.ip_3, T.ip_4, T.ip_66, T.ip_9, T.pl_77, T.s8_65, T.s8_71, T.sl_65, T.sl_71, T.st_65, T.st_71, T.un_65, T.un_71, T.zo_77, T.zo_79, init_a]
    refine (none_ph _).mono fun u H ⟨hu, hH⟩ => ?_
    subst hu hH
    simp (config := { dsimp := false, maxSteps := 10000000 }) (disch := omega) only [go_sem, reduceIte, Nat.reduceEqDiff, reduceCtorEq, Nat.reduceAdd, Nat.reduceMul, Int.reduceToNat, Int.reduceLE, Int.reduceLT, Int.reduceEq, Int.reduceNe, Nat.reduceLeDiff, Int.reducePow, Nat.reducePow, Nat.reduceLT, Nat.reduceSub, Nat.reduceMod, Nat.reduceDiv, slot_neg, slot_pos, T.ag_3, T.ag_79, T.ag_9, T.es_65, T.es_71, T.fo_79_0, T.fo_79_1, T.fo_79_2, T.fo_79_3, T.fo_79_4, T.fo_82_0, T.fo_82_1, T.gf_28, T.gf_29, T.gf_30, T.gf_31, T.gf_32, T.gf_33, T.gf_34, T.gf_35, T.gf_36, T.gf_37, T.gf_38, T.gf_9, T.ib_25, T.ib_3, T.ib_4, T.ib_66, T.ib_9, T.ii_65, T.ii_71, T.ip_25, T.ip_3, T.ip_4, T.ip_66, T.ip_9, T.pl_77, T.s8_65, T.s8_71, T.sl_65, T.sl_71, T.st_65, T.st_71, T.un_65, T.un_71, T.zo_77, T.zo_79, init_a]
    refine (thingsN_ph _ _).mono fun u H3 ⟨hU3, D, hO⟩ => ?_
    obtain ⟨A, st, hv⟩ := hO.form
    rw [hv]
    simp (config := { dsimp := false, maxSteps := 10000000 }) (disch := omega) only [go_sem, reduceIte, Nat.reduceEqDiff, reduceCtorEq, Nat.reduceAdd, Nat.reduceMul, Int.reduceToNat, Int.reduceLE, Int.reduceLT, Int.reduceEq, Int.reduceNe, Nat.reduceLeDiff, Int.reducePow, Nat.reducePow, Nat.reduceLT, Nat.reduceSub, Nat.reduceMod, Nat.reduceDiv, slot_neg, slot_pos, T.ag_3, T.ag_79, T.ag_9, T.es_65, T.es_71, T.fo_79_0, T.fo_79_1, T.fo_79_2, T.fo_79_3, T.fo_79_4, T.fo_82_0, T.fo_82_1, T.gf_28, T.gf_29, T.gf_30, T.gf_31, T.gf_32, T.gf_33, T.gf_34, T.gf_35, T.gf_36, T.gf_37, T.gf_38, T.gf_9, T.ib_25, T.ib_3, T.ib_4, T.ib_66, T.ib_9, T.ii_65, T.ii_71, T.ip_25, T.ip_3, T.ip_4, T.ip_66, T.ip_9, T.pl_77, T.s8_65, T.s8_71, T.sl_65, T.sl_71, T.st_65, T.st_71, T.un_65, T.un_71, T.zo_77, T.zo_79, init_a]
    exact hU.trans hU3 (by simp)
  have hU02 : Upd h H2 [] := hU.trans hU2 (by simp)
  by_cases hbad : x0 < 1 ∨ 10000 < x0
  · (refine CodeH.seq' (CodeH.of_vc [] hm (by kernel_rfl) ?_); simp (config := { dsimp := false, maxSteps := 10000000 }) (disch := omega) only [go_sem, reduceIte, Nat.reduceEqDiff, reduceCtorEq, Nat.reduceAdd, Nat.reduceMul, Int.reduceToNat, Int.reduceLE, Int.reduceLT, Int.reduceEq, Int.reduceNe, Nat.reduceLeDiff, Int.reducePow, Nat.reducePow, Nat.reduceLT, Nat.reduceSub, Nat.reduceMod, Nat.reduceDiv, slot_neg, slot_pos, T.ag_3, T.ag_79, T.ag_9, T.es_65, T.es_71, T.fo_79_0, T.fo_79_1, T.fo_79_2, T.fo_79_3, T.fo_79_4, T.fo_82_0, T.fo_82_1, T.gf_28, T.gf_29, T.gf_30, T.gf_31, T.gf_32, T.gf_33, T.gf_34, T.gf_35, T.gf_36, T.gf_37, T.gf_38, T.gf_9, T.ib_25, T.ib_3, T.ib_4, T.ib_66, T.ib_9, T.ii_65, T.ii_71, T.ip_25, T.ip_3, T.ip_4, T.ip_66, T.ip_9, T.pl_77, T.s8_65, T.s8_71, T.sl_65, T.sl_71, T.st_65, T.st_71, T.un_65, T.un_71, T.zo_77, T.zo_79, init_a, q0, q1])
    refine (NewE_ph _ _ hbad).mono fun u H ⟨hu, hH⟩ => ?_
    subst hu hH
    simp (config := { dsimp := false, maxSteps := 10000000 }) (disch := omega) only [go_sem, reduceIte, Nat.reduceEqDiff, reduceCtorEq, Nat.reduceAdd, Nat.reduceMul, Int.reduceToNat, Int.reduceLE, Int.reduceLT, Int.reduceEq, Int.reduceNe, Nat.reduceLeDiff, Int.reducePow, Nat.reducePow, Nat.reduceLT, Nat.reduceSub, Nat.reduceMod, Nat.reduceDiv, slot_neg, slot_pos, T.ag_3, T.ag_79, T.ag_9, T.es_65, T.es_71, T.fo_79_0, T.fo_79_1, T.fo_79_2, T.fo_79_3, T.fo_79_4, T.fo_82_0, T.fo_82_1, T.gf_28, T.gf_29, T.gf_30, T.gf_31, T.gf_32, T.gf_33, T.gf_34, T.gf_35, T.gf_36, T.gf_37, T.gf_38, T.gf_9, T.ib_25, T.ib_3, T.ib_4, T.ib_66, T.ib_9, T.ii_65, T.ii_71, T.ip_25, T.ip_3, T.ip_4, T.ip_66, T.ip_9, T.pl_77, T.s8_65, T.s8_71, T.sl_65, T.sl_71, T.st_65, T.st_71, T.un_65, T.un_71, T.zo_77, T.zo_79, q0, q1]
    by_cases c1 : x0 < 1
    · (refine CodeH.seq' (CodeH.of_vc [] hm (by kernel_rfl) ?_); simp (config := { dsimp := false, maxSteps := 10000000 }) (disch := omega) only [go_sem, reduceIte, Nat.reduceEqDiff, reduceCtorEq, Nat.reduceAdd, Nat.reduceMul, Int.reduceToNat, Int.reduceLE, Int.reduceLT, Int.reduceEq, Int.reduceNe, Nat.reduceLeDiff, Int.reducePow, Nat.reducePow, Nat.reduceLT, Nat.reduceSub, Nat.reduceMod, Nat.reduceDiv, slot_neg, slot_pos, T.ag_3, T.ag_79, T.ag_9, T.es_65, T.es_71, T.fo_79_0, T.fo_79_1, T.fo_79_2, T.fo_79_3, T.fo_79_4, T.fo_82_0, T.fo_82_1, T.gf_28, T.gf_29, T.gf_30, T.gf_31, T.gf_32, T.gf_33, T.gf_34, T.gf_35, T.gf_36, T.gf_37, T.gf_38, T.gf_9, T.ib_25, T.ib_3, T.ib_4, T.ib_66, T.ib_9, T.ii_65, T.ii_71, T.ip_25, T.ip_3, T.ip_4, T.ip_66, T.ip_9, T.pl_77, T.s8_65, T.s8_71, T.sl_65, T.sl_71, T.st_65, T.st_71, T.un_65, T.un_71, T.zo_77, T.zo_79, init_a, q0, q1, c1])
    · have c2 : 10000 < x0 := by omega
      (refine CodeH.seq' (CodeH.of_vc [] hm (by kernel_rfl) ?_); simp (config := { dsimp := false, maxSteps := 10000000 }) (disch := omega) only [go_sem, reduceIte, Nat.reduceEqDiff, reduceCtorEq, Nat.reduceAdd, Nat.reduceMul, Int.reduceToNat, Int.reduceLE, Int.reduceLT, Int.reduceEq, Int.reduceNe, Nat.reduceLeDiff, Int.reducePow, Nat.reducePow, Nat.reduceLT, Nat.reduceSub, Nat.reduceMod, Nat.reduceDiv, slot_neg, slot_pos, T.ag_3, T.ag_79, T.ag_9, T.es_65, T.es_71, T.fo_79_0, T.fo_79_1, T.fo_79_2, T.fo_79_3, T.fo_79_4, T.fo_82_0, T.fo_82_1, T.gf_28, T.gf_29, T.gf_30, T.gf_31, T.gf_32, T.gf_33, T.gf_34, T.gf_35, T.gf_36, T.gf_37, T.gf_38, T.gf_9, T.ib_25, T.ib_3, T.ib_4, T.ib_66, T.ib_9, T.ii_65, T.ii_71, T.ip_25, T.ip_3, T.ip_4, T.ip_66, T.ip_9, T.pl_77, T.s8_65, T.s8_71, T.sl_65, T.sl_71, T.st_65, T.st_71, T.un_65, T.un_71, T.zo_77, T.zo_79, init_a, q0, q1, c1, c2])
  have hm1 : ¬ x0 < 1 := by omega
  have hm2 : ¬ 10000 < x0 := by omega
  refine CodeH.seq (fun r H => ∃ p id, H2.next ≤ p ∧ H2.next ≤ id ∧ CaR isStrV H p id ⟨[], x0, 0, 0⟩ ∧ Upd H2 H [] ∧ r 0 = .int .i64 x0 ∧ r 1 = s1 ∧ r 8 = .pointer (some ⟨p, 0, none⟩) ∧ r 9 = .int .i64 0) (CodeH.of_vc [] hm (by kernel_rfl) ?_) fun r H3 ⟨p, id, hp, hid, hC3, hU3, q0, q1, q8, q9⟩ => ?_
  · simp (config := { dsimp := false, maxSteps := 10000000 }) (disch := omega) only [go_sem, reduceIte, Nat.reduceEqDiff, reduceCtorEq, Nat.reduceAdd, Nat.reduceMul, Int.reduceToNat, Int.reduceLE, Int.reduceLT, Int.reduceEq, Int.reduceNe, Nat.reduceLeDiff, Int.reducePow, Nat.reducePow, Nat.reduceLT, Nat.reduceSub, Nat.reduceMod, Nat.reduceDiv, slot_neg, slot_pos, T.ag_3, T.ag_79, T.ag_9, T.es_65, T.es_71, T.fo_79_0, T.fo_79_1, T.fo_79_2, T.fo_79_3, T.fo_79_4, T.fo_82_0, T.fo_82_1, T.gf_28, T.gf_29, T.gf_30, T.gf_31, T.gf_32, T.gf_33, T.gf_34, T.gf_35, T.gf_36, T.gf_37, T.gf_38, T.gf_9, T.ib_25, T.ib_3, T.ib_4, T.ib_66, T.ib_9, T.ii_65, T.ii_71, T.ip_25, T.ip_3, T.ip_4, T.ip_66, T.ip_9, T.pl_77, T.s8_65, T.s8_71, T.sl_65, T.sl_71, T.st_65, T.st_71, T.un_65, T.un_71, T.zo_77, T.zo_79, q0, q1]
    refine (NewS_ph _ x0 (by omega) (by omega)).mono fun u H ⟨p, id, h1, h2, hu, h3, h4⟩ => ?_
    subst hu
    simp (config := { dsimp := false, maxSteps := 10000000 }) (disch := omega) only [go_sem, reduceIte, Nat.reduceEqDiff, reduceCtorEq, Nat.reduceAdd, Nat.reduceMul, Int.reduceToNat, Int.reduceLE, Int.reduceLT, Int.reduceEq, Int.reduceNe, Nat.reduceLeDiff, Int.reducePow, Nat.reducePow, Nat.reduceLT, Nat.reduceSub, Nat.reduceMod, Nat.reduceDiv, slot_neg, slot_pos, T.ag_3, T.ag_79, T.ag_9, T.es_65, T.es_71, T.fo_79_0, T.fo_79_1, T.fo_79_2, T.fo_79_3, T.fo_79_4, T.fo_82_0, T.fo_82_1, T.gf_28, T.gf_29, T.gf_30, T.gf_31, T.gf_32, T.gf_33, T.gf_34, T.gf_35, T.gf_36, T.gf_37, T.gf_38, T.gf_9, T.ib_25, T.ib_3, T.ib_4, T.ib_66, T.ib_9, T.ii_65, T.ii_71, T.ip_25, T.ip_3, T.ip_4, T.ip_66, T.ip_9, T.pl_77, T.s8_65, T.s8_71, T.sl_65, T.sl_71, T.st_65, T.st_71, T.un_65, T.un_71, T.zo_77, T.zo_79, q0, q1]
    exact ⟨p, id, h1, h2, h3, h4, rfl⟩
  (refine CodeH.seq' (CodeH.of_vc [] hm (by kernel_rfl) ?_); simp (config := { dsimp := false, maxSteps := 10000000 }) (disch := omega) only [go_sem, reduceIte, Nat.reduceEqDiff, reduceCtorEq, Nat.reduceAdd, Nat.reduceMul, Int.reduceToNat, Int.reduceLE, Int.reduceLT, Int.reduceEq, Int.reduceNe, Nat.reduceLeDiff, Int.reducePow, Nat.reducePow, Nat.reduceLT, Nat.reduceSub, Nat.reduceMod, Nat.reduceDiv, slot_neg, slot_pos, T.ag_3, T.ag_79, T.ag_9, T.es_65, T.es_71, T.fo_79_0, T.fo_79_1, T.fo_79_2, T.fo_79_3, T.fo_79_4, T.fo_82_0, T.fo_82_1, T.gf_28, T.gf_29, T.gf_30, T.gf_31, T.gf_32, T.gf_33, T.gf_34, T.gf_35, T.gf_36, T.gf_37, T.gf_38, T.gf_9, T.ib_25, T.ib_3, T.ib_4, T.ib_66, T.ib_9, T.ii_65, T.ii_71, T.ip_25, T.ip_3, T.ip_4, T.ip_66, T.ip_9, T.pl_77, T.s8_65, T.s8_71, T.sl_65, T.sl_71, T.st_65, T.st_71, T.un_65, T.un_71, T.zo_77, T.zo_79, init_a, q0, q9, hm1, hm2])
  (refine CodeH.seq' (CodeH.of_vc [] hm (by kernel_rfl) ?_); simp (config := { dsimp := false, maxSteps := 10000000 }) (disch := omega) only [go_sem, reduceIte, Nat.reduceEqDiff, reduceCtorEq, Nat.reduceAdd, Nat.reduceMul, Int.reduceToNat, Int.reduceLE, Int.reduceLT, Int.reduceEq, Int.reduceNe, Nat.reduceLeDiff, Int.reducePow, Nat.reducePow, Nat.reduceLT, Nat.reduceSub, Nat.reduceMod, Nat.reduceDiv, slot_neg, slot_pos, T.ag_3, T.ag_79, T.ag_9, T.es_65, T.es_71, T.fo_79_0, T.fo_79_1, T.fo_79_2, T.fo_79_3, T.fo_79_4, T.fo_82_0, T.fo_82_1, T.gf_28, T.gf_29, T.gf_30, T.gf_31, T.gf_32, T.gf_33, T.gf_34, T.gf_35, T.gf_36, T.gf_37, T.gf_38, T.gf_9, T.ib_25, T.ib_3, T.ib_4, T.ib_66, T.ib_9, T.ii_65, T.ii_71, T.ip_25, T.ip_3, T.ip_4, T.ip_66, T.ip_9, T.pl_77, T.s8_65, T.s8_71, T.sl_65, T.sl_71, T.st_65, T.st_71, T.un_65, T.un_71, T.zo_77, T.zo_79, init_a, q9])
  refine CodeH.seq (fun r H => H = H3.alloc (.cells [.slice none 0 0, .int .i64 x0, .int .i64 0] .own) ∧ r 1 = s1 ∧ r 8 = .pointer (some ⟨p, 0, none⟩) ∧ r 10 = .pointer (some ⟨H3.next, 0, none⟩)) (CodeH.of_vc [] hm (by kernel_rfl) ?_) fun r H4 ⟨hH4, q1, q8, q10⟩ => ?_
  · simp (config := { dsimp := false, maxSteps := 10000000 }) (disch := omega) only [go_sem, reduceIte, Nat.reduceEqDiff, reduceCtorEq, Nat.reduceAdd, Nat.reduceMul, Int.reduceToNat, Int.reduceLE, Int.reduceLT, Int.reduceEq, Int.reduceNe, Nat.reduceLeDiff, Int.reducePow, Nat.reducePow, Nat.reduceLT, Nat.reduceSub, Nat.reduceMod, Nat.reduceDiv, slot_neg, slot_pos, T.ag_3, T.ag_79, T.ag_9, T.es_65, T.es_71, T.fo_79_0, T.fo_79_1, T.fo_79_2, T.fo_79_3, T.fo_79_4, T.fo_82_0, T.fo_82_1, T.gf_28, T.gf_29, T.gf_30, T.gf_31, T.gf_32, T.gf_33, T.gf_34, T.gf_35, T.gf_36, T.gf_37, T.gf_38, T.gf_9, T.ib_25, T.ib_3, T.ib_4, T.ib_66, T.ib_9, T.ii_65, T.ii_71, T.ip_25, T.ip_3, T.ip_4, T.ip_66, T.ip_9, T.pl_77, T.s8_65, T.s8_71, T.sl_65, T.sl_71, T.st_65, T.st_71, T.un_65, T.un_71, T.zo_77, T.zo_79, q0, q1, q8]
  have hU4 : Upd H3 H4 [] := by rw [hH4]; exact Upd.alloc _ _ _
  have hU04 : Upd h H4 [] := (hU02.trans hU3 (by simp)).trans hU4 (by simp)
  have hn02 := hU02.1
  have hn23 := hU3.1
  have hT0 : TT H4 p id H3.next [] (.slice none 0 0) ⟨[], x0, 0, 0⟩ := by
    have hlt := hC3.lt
    have hlt2 := hC3.map.elim fun cl hM => hM.lt
    refine ⟨hC3.upd hU4 (by simp) (by simp), ⟨by rw [hH4]; exact Nat.lt_succ_self _, by simp, by rw [hH4, get_alloc, if_pos rfl], OwnRow.nil _, by simp⟩, ⟨by show 1 ≤ x0; omega, ⟨by simp, by show (0:Int) ≤ farC; decide⟩, by simp, by simp, by simp, by show (0:Int) ≤ x0 ∧ x0 ≤ 10000; omega⟩, fun x hx => by simp at hx, fun x hx => by simp at hx, by omega, by omega, by simp, by simp⟩
  generalize hmm : H3.next = m at *
  have hfresh : ∀ d, d = p ∨ d = id ∨ d = m → h.next ≤ d := fun d hd => by rcases hd with rfl | rfl | rfl <;> omega
  clear hC3 hH4 hU4
  (refine CodeH.seq' (CodeH.of_vc [] hm (by kernel_rfl) ?_); simp (config := { dsimp := false, maxSteps := 10000000 }) (disch := omega) only [go_sem, reduceIte, Nat.reduceEqDiff, reduceCtorEq, Nat.reduceAdd, Nat.reduceMul, Int.reduceToNat, Int.reduceLE, Int.reduceLT, Int.reduceEq, Int.reduceNe, Nat.reduceLeDiff, Int.reducePow, Nat.reducePow, Nat.reduceLT, Nat.reduceSub, Nat.reduceMod, Nat.reduceDiv, slot_neg, slot_pos, T.ag_3, T.ag_79, T.ag_9, T.es_65, T.es_71, T.fo_79_0, T.fo_79_1, T.fo_79_2, T.fo_79_3, T.fo_79_4, T.fo_82_0, T.fo_82_1, T.gf_28, T.gf_29, T.gf_30, T.gf_31, T.gf_32, T.gf_33, T.gf_34, T.gf_35, T.gf_36, T.gf_37, T.gf_38, T.gf_9, T.ib_25, T.ib_3, T.ib_4, T.ib_66, T.ib_9, T.ii_65, T.ii_71, T.ip_25, T.ip_3, T.ip_4, T.ip_66, T.ip_9, T.pl_77, T.s8_65, T.s8_71, T.sl_65, T.sl_71, T.st_65, T.st_71, T.un_65, T.un_71, T.zo_77, T.zo_79, init_a])
  refine loop_introC (fun r H => ∃ (i : Nat) (c : Ca) (D : List Nat) (v : Value), i ≤ l1.length ∧ i ≤ 80 ∧ TT H p id m D v c ∧ c.puts ≤ i ∧ (∀ d ∈ D, h.next ≤ d) ∧ Upd h H [] ∧ r 1 = s1 ∧ r 8 = .pointer (some ⟨p, 0, none⟩) ∧ r 10 = .pointer (some ⟨m, 0, none⟩) ∧ r 11 = .int .i64 i) (fun r _ => match r 11 with | .int _ i => 80 - i.toNat | _ => 0) ?_ ?_
  · exact ⟨0, _, _, _, by omega, by omega, hT0, by simp, by simp, hU04, by simp [upd, q1], by simp [upd, q8], by simp [upd, q10], by simp [upd]⟩
  · rintro n hok r H ⟨i, c, D, v, hi, hi80, hT, hpu, hDh, hUH, q1, q8, q10, q11⟩
    clear hT0
    have hrow : RowIn tuE H s1 l1 := hr0.upd fun A n st e => hUH.2 _ (hlt0 A n st e) (by simp)
    obtain ⟨A1, st1, e1⟩ := hr0.form
    by_cases hlt : i < l1.length ∧ i < 80
    · have hlt' : ((i : Int) < (l1.length : Int)) = True := eq_true (by omega)
      have h80 : ((i : Int) < 80) = True := eq_true (by omega)
      refine CodeH.seq' (CodeH.of_vc [] hm (okl hok) ?_)
      replace hok := okr hok
      simp (config := { dsimp := false, maxSteps := 10000000 }) (disch := omega) only [go_sem, reduceIte, Nat.reduceEqDiff, reduceCtorEq, Nat.reduceAdd, Nat.reduceMul, Int.reduceToNat, Int.reduceLE, Int.reduceLT, Int.reduceEq, Int.reduceNe, Nat.reduceLeDiff, Int.reducePow, Nat.reducePow, Nat.reduceLT, Nat.reduceSub, Nat.reduceMod, Nat.reduceDiv, slot_neg, slot_pos, T.ag_3, T.ag_79, T.ag_9, T.es_65, T.es_71, T.fo_79_0, T.fo_79_1, T.fo_79_2, T.fo_79_3, T.fo_79_4, T.fo_82_0, T.fo_82_1, T.gf_28, T.gf_29, T.gf_30, T.gf_31, T.gf_32, T.gf_33, T.gf_34, T.gf_35, T.gf_36, T.gf_37, T.gf_38, T.gf_9, T.ib_25, T.ib_3, T.ib_4, T.ib_66, T.ib_9, T.ii_65, T.ii_71, T.ip_25, T.ip_3, T.ip_4, T.ip_66, T.ip_9, T.pl_77, T.s8_65, T.s8_71, T.sl_65, T.sl_71, T.st_65, T.st_71, T.un_65, T.un_71, T.zo_77, T.zo_79, q1, q11, e1, hlt', h80]
      have hx : l1[i]? = some l1[i] := List.getElem?_eq_getElem hlt.1
      rcases hrow with ⟨_, hnil⟩ | ⟨qe, offe, vse, oe, he', hqe, hRe⟩
      · rw [hnil] at hlt; simp at hlt
      have hxa := hRe.at hx
      have j1 : List.take 5 (List.drop (offe + i * 5) vse) = tuE.enc l1[i] := hxa.1
      have j2 : offe + i * 5 + 5 ≤ vse.length := hxa.2
      generalize l1[i] = x at hx j1
      obtain ⟨what, key, val, keep, at_⟩ := x
      have hen : tuE.enc (what, key, val, keep, at_) = [.int .i64 what, .string (str key), .int .i64 val, .int .i64 keep, .int .i64 at_] := rfl
      rw [hen] at j1
      have hK : tuE.k = 5 := rfl
      refine CodeH.seq' (CodeH.block ?_)
      have hokb := okb (okl hok)
      replace hok := okr hok
      refine CodeH.seq' (CodeH.of_vc [] hm (okl hokb) ?_)
      replace hokb := okr hokb
      rw [he'] at q1
      simp (config := { dsimp := false, maxSteps := 10000000 }) (disch := omega) only [go_sem, reduceIte, Nat.reduceEqDiff, reduceCtorEq, Nat.reduceAdd, Nat.reduceMul, Int.reduceToNat, Int.reduceLE, Int.reduceLT, Int.reduceEq, Int.reduceNe, Nat.reduceLeDiff, Int.reducePow, Nat.reducePow, Nat.reduceLT, Nat.reduceSub, Nat.reduceMod, Nat.reduceDiv, slot_neg, slot_pos, T.ag_3, T.ag_79, T.ag_9, T.es_65, T.es_71, T.fo_79_0, T.fo_79_1, T.fo_79_2, T.fo_79_3, T.fo_79_4, T.fo_82_0, T.fo_82_1, T.gf_28, T.gf_29, T.gf_30, T.gf_31, T.gf_32, T.gf_33, T.gf_34, T.gf_35, T.gf_36, T.gf_37, T.gf_38, T.gf_9, T.ib_25, T.ib_3, T.ib_4, T.ib_66, T.ib_9, T.ii_65, T.ii_71, T.ip_25, T.ip_3, T.ip_4, T.ip_66, T.ip_9, T.pl_77, T.s8_65, T.s8_71, T.sl_65, T.sl_71, T.st_65, T.st_71, T.un_65, T.un_71, T.zo_77, T.zo_79, q1, q11, hlt', hqe, j1, hK]
      refine ⟨j2, ?_⟩
      obtain ⟨Hv, hHv⟩ : ∃ Hv, (H.alloc (.cells [.int .i64 0, .string (str []), .int .i64 0, .int .i64 0, .int .i64 0] .own)).put H.next (.live (.cells [.int .i64 what, .string (str key), .int .i64 val, .int .i64 keep, .int .i64 at_] .own)) = Hv := ⟨_, rfl⟩
      rw [hHv]
      have gv : Hv.get H.next = .live (.cells [.int .i64 what, .string (str key), .int .i64 val, .int .i64 keep, .int .i64 at_] .own) := by rw [← hHv, get_put, if_pos rfl]
      have nv : Hv.next = H.next + 1 := by rw [← hHv]; rfl
      have uv : Upd H Hv [] := by rw [← hHv]; exact (Upd.alloc _ _ _).put (.inr (Nat.le_refl _))
      clear hHv
      have hTv := hT.upd uv
      have hpH := hT.ca.lt
      have hidH := hT.ca.map.elim fun cl hM => hM.lt
      have hmH := hT.rf.lt
      have hDH := hT.rf.row.lt
      have hUv : Upd h Hv [] := hUH.trans uv (by simp)
      refine CodeH.gen (fun r' h' => Hv = h' ∧ r' 1 = s1 ∧ r' 8 = .pointer (some ⟨p, 0, none⟩) ∧ r' 10 = .pointer (some ⟨m, 0, none⟩) ∧ r' 11 = .int .i64 i ∧ r' 12 = .pointer (some ⟨H.next, 0, none⟩)) ⟨rfl, by simp [upd, q1, he'], by simp [upd, q8], by simp [upd, q10], by simp [upd, q11], by simp [upd]⟩ fun r' h' ⟨hh, p1, p8, p10, p11, p12⟩ => ?_
      subst hh
      refine CodeH.seq (fun r' H' => r' 1 = s1 ∧ r' 8 = .pointer (some ⟨p, 0, none⟩) ∧ r' 10 = .pointer (some ⟨m, 0, none⟩) ∧ r' 11 = .int .i64 i ∧ r' 12 = .pointer (some ⟨H.next, 0, none⟩) ∧ H'.get H.next = .live (.cells [.int .i64 what, .string (str key), .int .i64 val, .int .i64 keep, .int .i64 at_] .own) ∧ H.next < H'.next ∧ Upd h H' [] ∧ ∃ (c' : Ca) (D' : List Nat) (v' : Value), TT H' p id m D' v' c' ∧ c'.puts ≤ i + 1 ∧ (∀ d ∈ D', h.next ≤ d ∧ d ≠ H.next)) ?_ ?_
      · clear hok
        have hoks := okl hokb
        clear hokb
        refine CodeH.seq' (CodeH.of_vc [] hm (okl hoks) ?_)
        replace hoks := okb (okr hoks)
        simp (config := { dsimp := false, maxSteps := 10000000 }) (disch := omega) only [go_sem, reduceIte, Nat.reduceEqDiff, reduceCtorEq, Nat.reduceAdd, Nat.reduceMul, Int.reduceToNat, Int.reduceLE, Int.reduceLT, Int.reduceEq, Int.reduceNe, Nat.reduceLeDiff, Int.reducePow, Nat.reducePow, Nat.reduceLT, Nat.reduceSub, Nat.reduceMod, Nat.reduceDiv, slot_neg, slot_pos, T.ag_3, T.ag_79, T.ag_9, T.es_65, T.es_71, T.fo_79_0, T.fo_79_1, T.fo_79_2, T.fo_79_3, T.fo_79_4, T.fo_82_0, T.fo_82_1, T.gf_28, T.gf_29, T.gf_30, T.gf_31, T.gf_32, T.gf_33, T.gf_34, T.gf_35, T.gf_36, T.gf_37, T.gf_38, T.gf_9, T.ib_25, T.ib_3, T.ib_4, T.ib_66, T.ib_9, T.ii_65, T.ii_71, T.ip_25, T.ip_3, T.ip_4, T.ip_66, T.ip_9, T.pl_77, T.s8_65, T.s8_71, T.sl_65, T.sl_71, T.st_65, T.st_71, T.un_65, T.un_71, T.zo_77, T.zo_79, p12, gv]
        refine CodeH.block ?_
        refine CodeH.seq' (CodeH.of_vc [] hm (okl hoks) ?_)
        replace hoks := okr hoks
        obtain ⟨wr, hwr⟩ : ∃ wr, p :: id :: m :: D = wr := ⟨_, rfl⟩
        have hwp : p ∈ wr := by rw [← hwr]; simp
        have hwi : id ∈ wr := by rw [← hwr]; simp
        have hwm : m ∈ wr := by rw [← hwr]; simp
        have hwD : ∀ d ∈ D, d ∈ wr := fun d hd => by rw [← hwr]; simp [hd]
        have hwlt : ∀ d ∈ wr, d < H.next := fun d hd => by
          rw [← hwr] at hd
          simp only [List.mem_cons] at hd
          rcases hd with rfl | rfl | rfl | hd
          · exact hpH
          · exact hidH
          · exact hmH
          · exact hDH d hd
        have hwge : ∀ d ∈ wr, h.next ≤ d := fun d hd => by
          rw [← hwr] at hd
          simp only [List.mem_cons] at hd
          rcases hd with rfl | rfl | rfl | hd
          · exact hfresh _ (.inl rfl)
          · exact hfresh _ (.inr (.inl rfl))
          · exact hfresh _ (.inr (.inr rfl))
          · exact hDh d hd
        have hnw : H.next ∉ wr := fun hd => by have := hwlt _ hd; omega
        have gvm : (Hv.mask wr).get H.next = .live (.cells [.int .i64 what, .string (str key), .int .i64 val, .int .i64 keep, .int .i64 at_] .lock) := by rw [get_mask, if_neg hnw, gv]; rfl
        have hCm := hTv.ca.mask hwp hwi
        have hRm := hTv.rf.mask hwm hwD
        have hmn : (Hv.mask wr).next = H.next + 1 := nv
        by_cases h1 : what = 1
        · have c1 : (what = 1) = True := eq_true h1
          simp (config := { dsimp := false, maxSteps := 10000000 }) (disch := omega) only [go_sem, reduceIte, Nat.reduceEqDiff, reduceCtorEq, Nat.reduceAdd, Nat.reduceMul, Int.reduceToNat, Int.reduceLE, Int.reduceLT, Int.reduceEq, Int.reduceNe, Nat.reduceLeDiff, Int.reducePow, Nat.reducePow, Nat.reduceLT, Nat.reduceSub, Nat.reduceMod, Nat.reduceDiv, slot_neg, slot_pos, T.ag_3, T.ag_79, T.ag_9, T.es_65, T.es_71, T.fo_79_0, T.fo_79_1, T.fo_79_2, T.fo_79_3, T.fo_79_4, T.fo_82_0, T.fo_82_1, T.gf_28, T.gf_29, T.gf_30, T.gf_31, T.gf_32, T.gf_33, T.gf_34, T.gf_35, T.gf_36, T.gf_37, T.gf_38, T.gf_9, T.ib_25, T.ib_3, T.ib_4, T.ib_66, T.ib_9, T.ii_65, T.ii_71, T.ip_25, T.ip_3, T.ip_4, T.ip_66, T.ip_9, T.pl_77, T.s8_65, T.s8_71, T.sl_65, T.sl_71, T.st_65, T.st_71, T.un_65, T.un_71, T.zo_77, T.zo_79, c1]
          refine CodeH.condT (okc hoks).1 rfl ?_
          replace hoks := (okc hoks).2.1
          refine CodeH.seq' (CodeH.of_vc [16] hm (okl hoks) ?_)
          replace hoks := okr hoks
          simp (config := { dsimp := false, maxSteps := 10000000 }) (disch := omega) only [go_sem, reduceIte, Nat.reduceEqDiff, reduceCtorEq, Nat.reduceAdd, Nat.reduceMul, Int.reduceToNat, Int.reduceLE, Int.reduceLT, Int.reduceEq, Int.reduceNe, Nat.reduceLeDiff, Int.reducePow, Nat.reducePow, Nat.reduceLT, Nat.reduceSub, Nat.reduceMod, Nat.reduceDiv, slot_neg, slot_pos, T.ag_3, T.ag_79, T.ag_9, T.es_65, T.es_71, T.fo_79_0, T.fo_79_1, T.fo_79_2, T.fo_79_3, T.fo_79_4, T.fo_82_0, T.fo_82_1, T.gf_28, T.gf_29, T.gf_30, T.gf_31, T.gf_32, T.gf_33, T.gf_34, T.gf_35, T.gf_36, T.gf_37, T.gf_38, T.gf_9, T.ib_25, T.ib_3, T.ib_4, T.ib_66, T.ib_9, T.ii_65, T.ii_71, T.ip_25, T.ip_3, T.ip_4, T.ip_66, T.ip_9, T.pl_77, T.s8_65, T.s8_71, T.sl_65, T.sl_71, T.st_65, T.st_71, T.un_65, T.un_71, T.zo_77, T.zo_79]
          refine draw_plan wr (.takeS 0 (.takeS 1 (.takeS 2 (.takeS 3 (.takeS 4 (.takeS 5 (.takeS 6 (.takeS 7 (.takeS 8 (.take 10 (.take 11 (.take 12 (.take 13 (.take 14 (.take 15 (.take 16 (.take 17 (.take 18 (.alt 9 (.alt 19 (.takeS 20 .done) .stop) .stop))))))))))))))))))) hm (by kernel_rfl) (by kernel_rfl) ?_
          generalize hHm : Hv.mask wr = Hm at hCm hRm gvm hmn
          have hlm : H.next < Hm.next := by omega
          simp (config := { dsimp := false, maxSteps := 10000000 }) (disch := omega) only [go_sem, reduceIte, Nat.reduceEqDiff, reduceCtorEq, Nat.reduceAdd, Nat.reduceMul, Int.reduceToNat, Int.reduceLE, Int.reduceLT, Int.reduceEq, Int.reduceNe, Nat.reduceLeDiff, Int.reducePow, Nat.reducePow, Nat.reduceLT, Nat.reduceSub, Nat.reduceMod, Nat.reduceDiv, slot_neg, slot_pos, T.ag_3, T.ag_79, T.ag_9, T.es_65, T.es_71, T.fo_79_0, T.fo_79_1, T.fo_79_2, T.fo_79_3, T.fo_79_4, T.fo_82_0, T.fo_82_1, T.gf_28, T.gf_29, T.gf_30, T.gf_31, T.gf_32, T.gf_33, T.gf_34, T.gf_35, T.gf_36, T.gf_37, T.gf_38, T.gf_9, T.ib_25, T.ib_3, T.ib_4, T.ib_66, T.ib_9, T.ii_65, T.ii_71, T.ip_25, T.ip_3, T.ip_4, T.ip_66, T.ip_9, T.pl_77, T.s8_65, T.s8_71, T.sl_65, T.sl_71, T.st_65, T.st_71, T.un_65, T.un_71, T.zo_77, T.zo_79, p8, p10, p12, gvm]
          refine ⟨hlm, hlm, hlm, hlm, (PutG_ph Hm p id c key val keep at_ hCm hT.ok (by omega)).mono fun u2 H2 ⟨f1, ⟨bn, f2⟩, f3⟩ => ?_⟩
          subst f1
          have f4 := f3.1
          have gv2 : H2.get H.next = .live (.cells [.int .i64 what, .string (str key), .int .i64 val, .int .i64 keep, .int .i64 at_] .lock) := (f3.2 _ hlm (by simp; omega)).trans gvm
          have hR2 := hRm.upd f3 (by simp; exact ⟨hT.mp, hT.mi⟩) (fun d hd => by simp; exact ⟨fun e => hT.pD (e ▸ hd), fun e => hT.iD (e ▸ hd)⟩)
          have hl2 : H.next < H2.next := by omega
          simp (config := { dsimp := false, maxSteps := 10000000 }) (disch := omega) only [go_sem, reduceIte, Nat.reduceEqDiff, reduceCtorEq, Nat.reduceAdd, Nat.reduceMul, Int.reduceToNat, Int.reduceLE, Int.reduceLT, Int.reduceEq, Int.reduceNe, Nat.reduceLeDiff, Int.reducePow, Nat.reducePow, Nat.reduceLT, Nat.reduceSub, Nat.reduceMod, Nat.reduceDiv, slot_neg, slot_pos, T.ag_3, T.ag_79, T.ag_9, T.es_65, T.es_71, T.fo_79_0, T.fo_79_1, T.fo_79_2, T.fo_79_3, T.fo_79_4, T.fo_82_0, T.fo_82_1, T.gf_28, T.gf_29, T.gf_30, T.gf_31, T.gf_32, T.gf_33, T.gf_34, T.gf_35, T.gf_36, T.gf_37, T.gf_38, T.gf_9, T.ib_25, T.ib_3, T.ib_4, T.ib_66, T.ib_9, T.ii_65, T.ii_71, T.ip_25, T.ip_3, T.ip_4, T.ip_66, T.ip_9, T.pl_77, T.s8_65, T.s8_71, T.sl_65, T.sl_71, T.st_65, T.st_71, T.un_65, T.un_71, T.zo_77, T.zo_79, p8, p10, p12, gv2]
          refine (RputG_ph H2 m D v c key val keep at_ bn hR2 hT.str hT.ok).mono fun u3 H3 ⟨g1, ⟨D3, v3, g2, g3⟩, g4⟩ => ?_
          subst g1
          obtain ⟨c', hc'⟩ : ∃ c', (if putBad keep at_ then c else putS c (.string (str key)) (.int .i64 val) keep at_ bn ⟨rfl, rfl⟩) = c' := ⟨_, rfl⟩
          rw [hc'] at f2 g2
          have hfacts : CaOk c' ∧ strKeys c' ∧ intVals c' ∧ c'.puts ≤ c.puts + 1 := by
            rw [← hc']
            split
            · exact ⟨hT.ok, hT.str, hT.int, by omega⟩
            · exact ⟨hT.ok.put, hT.str.put ⟨_, rfl⟩ _ _ _ _, hT.int.put ⟨_, rfl⟩ _ _ _ _, puts_put _ _ _ _ _ _ _⟩
          rw [← hHm] at f3
          obtain ⟨o1, o2, o3, o4, o5⟩ := pair_out hTv hwr hnw (by omega) gv hUv hwge (by have := hUH.1; omega) f2 f3 g2 g3 g4 hfacts.1 hfacts.2.1 hfacts.2.2.1
          simp (config := { dsimp := false, maxSteps := 10000000 }) (disch := omega) only [go_sem, reduceIte, Nat.reduceEqDiff, reduceCtorEq, Nat.reduceAdd, Nat.reduceMul, Int.reduceToNat, Int.reduceLE, Int.reduceLT, Int.reduceEq, Int.reduceNe, Nat.reduceLeDiff, Int.reducePow, Nat.reducePow, Nat.reduceLT, Nat.reduceSub, Nat.reduceMod, Nat.reduceDiv, slot_neg, slot_pos, T.ag_3, T.ag_79, T.ag_9, T.es_65, T.es_71, T.fo_79_0, T.fo_79_1, T.fo_79_2, T.fo_79_3, T.fo_79_4, T.fo_82_0, T.fo_82_1, T.gf_28, T.gf_29, T.gf_30, T.gf_31, T.gf_32, T.gf_33, T.gf_34, T.gf_35, T.gf_36, T.gf_37, T.gf_38, T.gf_9, T.ib_25, T.ib_3, T.ib_4, T.ib_66, T.ib_9, T.ii_65, T.ii_71, T.ip_25, T.ip_3, T.ip_4, T.ip_66, T.ip_9, T.pl_77, T.s8_65, T.s8_71, T.sl_65, T.sl_71, T.st_65, T.st_71, T.un_65, T.un_71, T.zo_77, T.zo_79]
          refine CodeH.of_vc [] hm hoks ?_
          simp (config := { dsimp := false, maxSteps := 10000000 }) (disch := omega) only [go_sem, reduceIte, Nat.reduceEqDiff, reduceCtorEq, Nat.reduceAdd, Nat.reduceMul, Int.reduceToNat, Int.reduceLE, Int.reduceLT, Int.reduceEq, Int.reduceNe, Nat.reduceLeDiff, Int.reducePow, Nat.reducePow, Nat.reduceLT, Nat.reduceSub, Nat.reduceMod, Nat.reduceDiv, slot_neg, slot_pos, T.ag_3, T.ag_79, T.ag_9, T.es_65, T.es_71, T.fo_79_0, T.fo_79_1, T.fo_79_2, T.fo_79_3, T.fo_79_4, T.fo_82_0, T.fo_82_1, T.gf_28, T.gf_29, T.gf_30, T.gf_31, T.gf_32, T.gf_33, T.gf_34, T.gf_35, T.gf_36, T.gf_37, T.gf_38, T.gf_9, T.ib_25, T.ib_3, T.ib_4, T.ib_66, T.ib_9, T.ii_65, T.ii_71, T.ip_25, T.ip_3, T.ip_4, T.ip_66, T.ip_9, T.pl_77, T.s8_65, T.s8_71, T.sl_65, T.sl_71, T.st_65, T.st_71, T.un_65, T.un_71, T.zo_77, T.zo_79, p1, p8, p10, p11, p12]
          exact ⟨o1, o2, o3, c', D3, v3, o4, by omega, o5⟩
        · have c1 : (what = 1) = False := eq_false h1
          simp (config := { dsimp := false, maxSteps := 10000000 }) (disch := omega) only [go_sem, reduceIte, Nat.reduceEqDiff, reduceCtorEq, Nat.reduceAdd, Nat.reduceMul, Int.reduceToNat, Int.reduceLE, Int.reduceLT, Int.reduceEq, Int.reduceNe, Nat.reduceLeDiff, Int.reducePow, Nat.reducePow, Nat.reduceLT, Nat.reduceSub, Nat.reduceMod, Nat.reduceDiv, slot_neg, slot_pos, T.ag_3, T.ag_79, T.ag_9, T.es_65, T.es_71, T.fo_79_0, T.fo_79_1, T.fo_79_2, T.fo_79_3, T.fo_79_4, T.fo_82_0, T.fo_82_1, T.gf_28, T.gf_29, T.gf_30, T.gf_31, T.gf_32, T.gf_33, T.gf_34, T.gf_35, T.gf_36, T.gf_37, T.gf_38, T.gf_9, T.ib_25, T.ib_3, T.ib_4, T.ib_66, T.ib_9, T.ii_65, T.ii_71, T.ip_25, T.ip_3, T.ip_4, T.ip_66, T.ip_9, T.pl_77, T.s8_65, T.s8_71, T.sl_65, T.sl_71, T.st_65, T.st_71, T.un_65, T.un_71, T.zo_77, T.zo_79, c1]
          refine CodeH.condF (okc hoks).1 rfl ?_
          replace hoks := (okc hoks).2.2
          refine CodeH.seq' (CodeH.of_vc [] hm (okl hoks) ?_)
          replace hoks := okr hoks
          by_cases h2 : what = 2
          · have c2 : (what = 2) = True := eq_true h2
            simp (config := { dsimp := false, maxSteps := 10000000 }) (disch := omega) only [go_sem, reduceIte, Nat.reduceEqDiff, reduceCtorEq, Nat.reduceAdd, Nat.reduceMul, Int.reduceToNat, Int.reduceLE, Int.reduceLT, Int.reduceEq, Int.reduceNe, Nat.reduceLeDiff, Int.reducePow, Nat.reducePow, Nat.reduceLT, Nat.reduceSub, Nat.reduceMod, Nat.reduceDiv, slot_neg, slot_pos, T.ag_3, T.ag_79, T.ag_9, T.es_65, T.es_71, T.fo_79_0, T.fo_79_1, T.fo_79_2, T.fo_79_3, T.fo_79_4, T.fo_82_0, T.fo_82_1, T.gf_28, T.gf_29, T.gf_30, T.gf_31, T.gf_32, T.gf_33, T.gf_34, T.gf_35, T.gf_36, T.gf_37, T.gf_38, T.gf_9, T.ib_25, T.ib_3, T.ib_4, T.ib_66, T.ib_9, T.ii_65, T.ii_71, T.ip_25, T.ip_3, T.ip_4, T.ip_66, T.ip_9, T.pl_77, T.s8_65, T.s8_71, T.sl_65, T.sl_71, T.st_65, T.st_71, T.un_65, T.un_71, T.zo_77, T.zo_79, c2]
            refine CodeH.condT (okc hoks).1 rfl ?_
            replace hoks := (okc hoks).2.1
            refine CodeH.seq' (CodeH.of_vc [] hm (okl hoks) ?_)
            replace hoks := okr hoks
            simp (config := { dsimp := false, maxSteps := 10000000 }) (disch := omega) only [go_sem, reduceIte, Nat.reduceEqDiff, reduceCtorEq, Nat.reduceAdd, Nat.reduceMul, Int.reduceToNat, Int.reduceLE, Int.reduceLT, Int.reduceEq, Int.reduceNe, Nat.reduceLeDiff, Int.reducePow, Nat.reducePow, Nat.reduceLT, Nat.reduceSub, Nat.reduceMod, Nat.reduceDiv, slot_neg, slot_pos, T.ag_3, T.ag_79, T.ag_9, T.es_65, T.es_71, T.fo_79_0, T.fo_79_1, T.fo_79_2, T.fo_79_3, T.fo_79_4, T.fo_82_0, T.fo_82_1, T.gf_28, T.gf_29, T.gf_30, T.gf_31, T.gf_32, T.gf_33, T.gf_34, T.gf_35, T.gf_36, T.gf_37, T.gf_38, T.gf_9, T.ib_25, T.ib_3, T.ib_4, T.ib_66, T.ib_9, T.ii_65, T.ii_71, T.ip_25, T.ip_3, T.ip_4, T.ip_66, T.ip_9, T.pl_77, T.s8_65, T.s8_71, T.sl_65, T.sl_71, T.st_65, T.st_71, T.un_65, T.un_71, T.zo_77, T.zo_79, p8, p10, p12, gv]
            refine (GetS_ph Hv p id c at_ (.string (str key)) ⟨_, rfl⟩ hTv.ca).mono fun u2 H2 ⟨f1, f2, f3⟩ => ?_
            have f4 := f2.1
            have gv2 : H2.get H.next = .live (.cells [.int .i64 what, .string (str key), .int .i64 val, .int .i64 keep, .int .i64 at_] .own) := (f2.2 _ (by omega) (by simp; omega)).trans gv
            have hR2 := hTv.rf.upd f2 (by simp; exact ⟨hT.mp, hT.mi⟩) (fun d hd => by simp; exact ⟨fun e => hT.pD (e ▸ hd), fun e => hT.iD (e ▸ hd)⟩)
            have hget : ∃ n1 n2 b1, u2 = .tuple #[.int .i64 n1, .int .i64 n2, .bool b1] ∧ ((∃ x ∈ (timeC c at_).l, x.key = .string (str key) ∧ .int .i64 n1 = x.val ∧ n2 = IntKind.i64.wrap (x.goes - (timeC c at_).now) ∧ b1 = true) ∨ ((∀ x ∈ (timeC c at_).l, x.key ≠ .string (str key)) ∧ n1 = 0 ∧ n2 = 0 ∧ b1 = false)) := by
              rcases f3 with ⟨x, hx, hxk, hu⟩ | ⟨hno, hu⟩
              · obtain ⟨nv, hnv⟩ := (hT.int.time at_) x hx
                exact ⟨nv, _, true, by rw [hu, hnv], .inl ⟨x, hx, hxk, hnv.symm, rfl, rfl⟩⟩
              · exact ⟨0, 0, false, hu, .inr ⟨hno, rfl, rfl, rfl⟩⟩
            obtain ⟨n1, n2, b1, hu2, hg1⟩ := hget
            subst hu2
            simp (config := { dsimp := false, maxSteps := 10000000 }) (disch := omega) only [go_sem, reduceIte, Nat.reduceEqDiff, reduceCtorEq, Nat.reduceAdd, Nat.reduceMul, Int.reduceToNat, Int.reduceLE, Int.reduceLT, Int.reduceEq, Int.reduceNe, Nat.reduceLeDiff, Int.reducePow, Nat.reducePow, Nat.reduceLT, Nat.reduceSub, Nat.reduceMod, Nat.reduceDiv, slot_neg, slot_pos, T.ag_3, T.ag_79, T.ag_9, T.es_65, T.es_71, T.fo_79_0, T.fo_79_1, T.fo_79_2, T.fo_79_3, T.fo_79_4, T.fo_82_0, T.fo_82_1, T.gf_28, T.gf_29, T.gf_30, T.gf_31, T.gf_32, T.gf_33, T.gf_34, T.gf_35, T.gf_36, T.gf_37, T.gf_38, T.gf_9, T.ib_25, T.ib_3, T.ib_4, T.ib_66, T.ib_9, T.ii_65, T.ii_71, T.ip_25, T.ip_3, T.ip_4, T.ip_66, T.ip_9, T.pl_77, T.s8_65, T.s8_71, T.sl_65, T.sl_71, T.st_65, T.st_71, T.un_65, T.un_71, T.zo_77, T.zo_79]
            refine CodeH.seq' (CodeH.of_vc [] hm (okl hoks) ?_)
            replace hoks := okr hoks
            simp (config := { dsimp := false, maxSteps := 10000000 }) (disch := omega) only [go_sem, reduceIte, Nat.reduceEqDiff, reduceCtorEq, Nat.reduceAdd, Nat.reduceMul, Int.reduceToNat, Int.reduceLE, Int.reduceLT, Int.reduceEq, Int.reduceNe, Nat.reduceLeDiff, Int.reducePow, Nat.reducePow, Nat.reduceLT, Nat.reduceSub, Nat.reduceMod, Nat.reduceDiv, slot_neg, slot_pos, T.ag_3, T.ag_79, T.ag_9, T.es_65, T.es_71, T.fo_79_0, T.fo_79_1, T.fo_79_2, T.fo_79_3, T.fo_79_4, T.fo_82_0, T.fo_82_1, T.gf_28, T.gf_29, T.gf_30, T.gf_31, T.gf_32, T.gf_33, T.gf_34, T.gf_35, T.gf_36, T.gf_37, T.gf_38, T.gf_9, T.ib_25, T.ib_3, T.ib_4, T.ib_66, T.ib_9, T.ii_65, T.ii_71, T.ip_25, T.ip_3, T.ip_4, T.ip_66, T.ip_9, T.pl_77, T.s8_65, T.s8_71, T.sl_65, T.sl_71, T.st_65, T.st_71, T.un_65, T.un_71, T.zo_77, T.zo_79, p8, p10, p12, gv2]
            refine (Rget_ph H2 m D v c key at_ hR2 hT.str).mono fun u3 H3 ⟨⟨D3, v3, g2, g3, g4⟩, g5⟩ => ?_
            have hu3 : u3 = .tuple #[.int .i64 n1, .int .i64 n2, .bool b1] := by
              have hone := f1.map.elim fun cl hM => hM.one
              rcases hg1 with ⟨x, hx, hxk, hv1, hv2, hv3⟩ | ⟨hno, hv1, hv2, hv3⟩ <;> rcases g5 with ⟨y, hy, hyk, hu⟩ | ⟨hno', hu⟩
              · have e := key_inj hone hx hy (hxk.trans hyk.symm)
                rw [hu, hv1, hv2, hv3, e]
              · exact absurd hxk (hno' x hx)
              · exact absurd hyk (hno y hy)
              · rw [hu, hv1, hv2, hv3]
            subst hu3
            have g6 := g4.1
            have hT3 : TT H3 p id m D3 v3 (timeC c at_) := ⟨f1.upd g4 (by simp; exact hT.mp.symm) (by simp; exact hT.mi.symm), g2, hT.ok.time _, hT.str.time _, hT.int.time _, hT.mp, hT.mi, fun hd => by have := g3 p hd; omega, fun hd => by have := g3 id hd; omega⟩
            have gv3 : H3.get H.next = .live (.cells [.int .i64 what, .string (str key), .int .i64 val, .int .i64 keep, .int .i64 at_] .own) := (g4.2 _ (by omega) (by simp; omega)).trans gv2
            have hU2f : Upd h H2 [] := hUv.trans f2 fun d hd => .inr (hfresh d (by simp at hd; omega))
            have hU3f : Upd h H3 [] := hU2f.trans g4 fun d hd => .inr (hfresh d (by simp at hd; omega))
            simp (config := { dsimp := false, maxSteps := 10000000 }) (disch := omega) only [go_sem, reduceIte, Nat.reduceEqDiff, reduceCtorEq, Nat.reduceAdd, Nat.reduceMul, Int.reduceToNat, Int.reduceLE, Int.reduceLT, Int.reduceEq, Int.reduceNe, Nat.reduceLeDiff, Int.reducePow, Nat.reducePow, Nat.reduceLT, Nat.reduceSub, Nat.reduceMod, Nat.reduceDiv, slot_neg, slot_pos, T.ag_3, T.ag_79, T.ag_9, T.es_65, T.es_71, T.fo_79_0, T.fo_79_1, T.fo_79_2, T.fo_79_3, T.fo_79_4, T.fo_82_0, T.fo_82_1, T.gf_28, T.gf_29, T.gf_30, T.gf_31, T.gf_32, T.gf_33, T.gf_34, T.gf_35, T.gf_36, T.gf_37, T.gf_38, T.gf_9, T.ib_25, T.ib_3, T.ib_4, T.ib_66, T.ib_9, T.ii_65, T.ii_71, T.ip_25, T.ip_3, T.ip_4, T.ip_66, T.ip_9, T.pl_77, T.s8_65, T.s8_71, T.sl_65, T.sl_71, T.st_65, T.st_71, T.un_65, T.un_71, T.zo_77, T.zo_79]
            have e9 : (!(b1 == b1)) = false := by simp
            refine CodeH.of_vc [] hm hoks ?_
            simp (config := { dsimp := false, maxSteps := 10000000 }) (disch := omega) only [go_sem, reduceIte, Nat.reduceEqDiff, reduceCtorEq, Nat.reduceAdd, Nat.reduceMul, Int.reduceToNat, Int.reduceLE, Int.reduceLT, Int.reduceEq, Int.reduceNe, Nat.reduceLeDiff, Int.reducePow, Nat.reducePow, Nat.reduceLT, Nat.reduceSub, Nat.reduceMod, Nat.reduceDiv, slot_neg, slot_pos, T.ag_3, T.ag_79, T.ag_9, T.es_65, T.es_71, T.fo_79_0, T.fo_79_1, T.fo_79_2, T.fo_79_3, T.fo_79_4, T.fo_82_0, T.fo_82_1, T.gf_28, T.gf_29, T.gf_30, T.gf_31, T.gf_32, T.gf_33, T.gf_34, T.gf_35, T.gf_36, T.gf_37, T.gf_38, T.gf_9, T.ib_25, T.ib_3, T.ib_4, T.ib_66, T.ib_9, T.ii_65, T.ii_71, T.ip_25, T.ip_3, T.ip_4, T.ip_66, T.ip_9, T.pl_77, T.s8_65, T.s8_71, T.sl_65, T.sl_71, T.st_65, T.st_71, T.un_65, T.un_71, T.zo_77, T.zo_79, p1, p8, p10, p11, p12, e9]
            have n0 := hUH.1
            exact ⟨gv3, by omega, hU3f, _, D3, v3, hT3, by show c.puts ≤ _; omega, fun d hd => by have := g3 d hd; omega⟩
          · have c2 : (what = 2) = False := eq_false h2
            simp (config := { dsimp := false, maxSteps := 10000000 }) (disch := omega) only [go_sem, reduceIte, Nat.reduceEqDiff, reduceCtorEq, Nat.reduceAdd, Nat.reduceMul, Int.reduceToNat, Int.reduceLE, Int.reduceLT, Int.reduceEq, Int.reduceNe, Nat.reduceLeDiff, Int.reducePow, Nat.reducePow, Nat.reduceLT, Nat.reduceSub, Nat.reduceMod, Nat.reduceDiv, slot_neg, slot_pos, T.ag_3, T.ag_79, T.ag_9, T.es_65, T.es_71, T.fo_79_0, T.fo_79_1, T.fo_79_2, T.fo_79_3, T.fo_79_4, T.fo_82_0, T.fo_82_1, T.gf_28, T.gf_29, T.gf_30, T.gf_31, T.gf_32, T.gf_33, T.gf_34, T.gf_35, T.gf_36, T.gf_37, T.gf_38, T.gf_9, T.ib_25, T.ib_3, T.ib_4, T.ib_66, T.ib_9, T.ii_65, T.ii_71, T.ip_25, T.ip_3, T.ip_4, T.ip_66, T.ip_9, T.pl_77, T.s8_65, T.s8_71, T.sl_65, T.sl_71, T.st_65, T.st_71, T.un_65, T.un_71, T.zo_77, T.zo_79, c2]
            refine CodeH.condF (okc hoks).1 rfl ?_
            replace hoks := (okc hoks).2.2
            refine CodeH.seq' (CodeH.of_vc [] hm (okl hoks) ?_)
            replace hoks := okr hoks
            by_cases h3 : what = 3
            · have c3 : (what = 3) = True := eq_true h3
              simp (config := { dsimp := false, maxSteps := 10000000 }) (disch := omega) only [go_sem, reduceIte, Nat.reduceEqDiff, reduceCtorEq, Nat.reduceAdd, Nat.reduceMul, Int.reduceToNat, Int.reduceLE, Int.reduceLT, Int.reduceEq, Int.reduceNe, Nat.reduceLeDiff, Int.reducePow, Nat.reducePow, Nat.reduceLT, Nat.reduceSub, Nat.reduceMod, Nat.reduceDiv, slot_neg, slot_pos, T.ag_3, T.ag_79, T.ag_9, T.es_65, T.es_71, T.fo_79_0, T.fo_79_1, T.fo_79_2, T.fo_79_3, T.fo_79_4, T.fo_82_0, T.fo_82_1, T.gf_28, T.gf_29, T.gf_30, T.gf_31, T.gf_32, T.gf_33, T.gf_34, T.gf_35, T.gf_36, T.gf_37, T.gf_38, T.gf_9, T.ib_25, T.ib_3, T.ib_4, T.ib_66, T.ib_9, T.ii_65, T.ii_71, T.ip_25, T.ip_3, T.ip_4, T.ip_66, T.ip_9, T.pl_77, T.s8_65, T.s8_71, T.sl_65, T.sl_71, T.st_65, T.st_71, T.un_65, T.un_71, T.zo_77, T.zo_79, c3]
              refine CodeH.condT (okc hoks).1 rfl ?_
              replace hoks := (okc hoks).2.1
              refine CodeH.seq' (CodeH.of_vc [24] hm (okl hoks) ?_)
              replace hoks := okr hoks
              simp (config := { dsimp := false, maxSteps := 10000000 }) (disch := omega) only [go_sem, reduceIte, Nat.reduceEqDiff, reduceCtorEq, Nat.reduceAdd, Nat.reduceMul, Int.reduceToNat, Int.reduceLE, Int.reduceLT, Int.reduceEq, Int.reduceNe, Nat.reduceLeDiff, Int.reducePow, Nat.reducePow, Nat.reduceLT, Nat.reduceSub, Nat.reduceMod, Nat.reduceDiv, slot_neg, slot_pos, T.ag_3, T.ag_79, T.ag_9, T.es_65, T.es_71, T.fo_79_0, T.fo_79_1, T.fo_79_2, T.fo_79_3, T.fo_79_4, T.fo_82_0, T.fo_82_1, T.gf_28, T.gf_29, T.gf_30, T.gf_31, T.gf_32, T.gf_33, T.gf_34, T.gf_35, T.gf_36, T.gf_37, T.gf_38, T.gf_9, T.ib_25, T.ib_3, T.ib_4, T.ib_66, T.ib_9, T.ii_65, T.ii_71, T.ip_25, T.ip_3, T.ip_4, T.ip_66, T.ip_9, T.pl_77, T.s8_65, T.s8_71, T.sl_65, T.sl_71, T.st_65, T.st_71, T.un_65, T.un_71, T.zo_77, T.zo_79]
              refine draw_plan wr (.takeS 0 (.takeS 1 (.takeS 2 (.takeS 3 (.takeS 4 (.take 6 (.take 7 (.take 8 (.take 9 (.take 10 (.alt 5 (.alt 11 (.takeS 12 .done) .stop) .stop))))))))))) hm (by kernel_rfl) (by kernel_rfl) ?_
              generalize hHm : Hv.mask wr = Hm at hCm hRm gvm hmn
              have hlm : H.next < Hm.next := by omega
              simp (config := { dsimp := false, maxSteps := 10000000 }) (disch := omega) only [go_sem, reduceIte, Nat.reduceEqDiff, reduceCtorEq, Nat.reduceAdd, Nat.reduceMul, Int.reduceToNat, Int.reduceLE, Int.reduceLT, Int.reduceEq, Int.reduceNe, Nat.reduceLeDiff, Int.reducePow, Nat.reducePow, Nat.reduceLT, Nat.reduceSub, Nat.reduceMod, Nat.reduceDiv, slot_neg, slot_pos, T.ag_3, T.ag_79, T.ag_9, T.es_65, T.es_71, T.fo_79_0, T.fo_79_1, T.fo_79_2, T.fo_79_3, T.fo_79_4, T.fo_82_0, T.fo_82_1, T.gf_28, T.gf_29, T.gf_30, T.gf_31, T.gf_32, T.gf_33, T.gf_34, T.gf_35, T.gf_36, T.gf_37, T.gf_38, T.gf_9, T.ib_25, T.ib_3, T.ib_4, T.ib_66, T.ib_9, T.ii_65, T.ii_71, T.ip_25, T.ip_3, T.ip_4, T.ip_66, T.ip_9, T.pl_77, T.s8_65, T.s8_71, T.sl_65, T.sl_71, T.st_65, T.st_71, T.un_65, T.un_71, T.zo_77, T.zo_79, p8, p10, p12, gvm]
              refine ⟨hlm, hlm, (DropS_ph Hm p id c at_ (.string (str key)) ⟨_, rfl⟩ hCm).mono fun u2 H2 ⟨f2, f3, f1⟩ => ?_⟩
              subst f1
              have f4 := f3.1
              have gv2 : H2.get H.next = .live (.cells [.int .i64 what, .string (str key), .int .i64 val, .int .i64 keep, .int .i64 at_] .lock) := (f3.2 _ hlm (by simp; omega)).trans gvm
              have hR2 := hRm.upd f3 (by simp; exact ⟨hT.mp, hT.mi⟩) (fun d hd => by simp; exact ⟨fun e => hT.pD (e ▸ hd), fun e => hT.iD (e ▸ hd)⟩)
              have hl2 : H.next < H2.next := by omega
              simp (config := { dsimp := false, maxSteps := 10000000 }) (disch := omega) only [go_sem, reduceIte, Nat.reduceEqDiff, reduceCtorEq, Nat.reduceAdd, Nat.reduceMul, Int.reduceToNat, Int.reduceLE, Int.reduceLT, Int.reduceEq, Int.reduceNe, Nat.reduceLeDiff, Int.reducePow, Nat.reducePow, Nat.reduceLT, Nat.reduceSub, Nat.reduceMod, Nat.reduceDiv, slot_neg, slot_pos, T.ag_3, T.ag_79, T.ag_9, T.es_65, T.es_71, T.fo_79_0, T.fo_79_1, T.fo_79_2, T.fo_79_3, T.fo_79_4, T.fo_82_0, T.fo_82_1, T.gf_28, T.gf_29, T.gf_30, T.gf_31, T.gf_32, T.gf_33, T.gf_34, T.gf_35, T.gf_36, T.gf_37, T.gf_38, T.gf_9, T.ib_25, T.ib_3, T.ib_4, T.ib_66, T.ib_9, T.ii_65, T.ii_71, T.ip_25, T.ip_3, T.ip_4, T.ip_66, T.ip_9, T.pl_77, T.s8_65, T.s8_71, T.sl_65, T.sl_71, T.st_65, T.st_71, T.un_65, T.un_71, T.zo_77, T.zo_79, p8, p10, p12, gv2]
              refine (Rdrop_ph H2 m D v c key at_ hR2 hT.str).mono fun u3 H3 ⟨g1, D3, v3, g2, g3, g4⟩ => ?_
              subst g1
              rw [← hHm] at f3
              obtain ⟨o1, o2, o3, o4, o5⟩ := pair_out hTv hwr hnw (by omega) gv hUv hwge (by have := hUH.1; omega) f2 f3 g2 (fun d hd => .inr (g3 d hd)) g4 ((hT.ok.time at_).without _) ((hT.str.time at_).without _) ((hT.int.time at_).without _)
              generalize decide ((without (timeC c at_) (Value.string (str key))).l.length < (timeC c at_).l.length) = bb
              simp (config := { dsimp := false, maxSteps := 10000000 }) (disch := omega) only [go_sem, reduceIte, Nat.reduceEqDiff, reduceCtorEq, Nat.reduceAdd, Nat.reduceMul, Int.reduceToNat, Int.reduceLE, Int.reduceLT, Int.reduceEq, Int.reduceNe, Nat.reduceLeDiff, Int.reducePow, Nat.reducePow, Nat.reduceLT, Nat.reduceSub, Nat.reduceMod, Nat.reduceDiv, slot_neg, slot_pos, T.ag_3, T.ag_79, T.ag_9, T.es_65, T.es_71, T.fo_79_0, T.fo_79_1, T.fo_79_2, T.fo_79_3, T.fo_79_4, T.fo_82_0, T.fo_82_1, T.gf_28, T.gf_29, T.gf_30, T.gf_31, T.gf_32, T.gf_33, T.gf_34, T.gf_35, T.gf_36, T.gf_37, T.gf_38, T.gf_9, T.ib_25, T.ib_3, T.ib_4, T.ib_66, T.ib_9, T.ii_65, T.ii_71, T.ip_25, T.ip_3, T.ip_4, T.ip_66, T.ip_9, T.pl_77, T.s8_65, T.s8_71, T.sl_65, T.sl_71, T.st_65, T.st_71, T.un_65, T.un_71, T.zo_77, T.zo_79]
              refine CodeH.of_vc [] hm hoks ?_
              have e9 : (!(bb == bb)) = false := by simp
              simp (config := { dsimp := false, maxSteps := 10000000 }) (disch := omega) only [go_sem, reduceIte, Nat.reduceEqDiff, reduceCtorEq, Nat.reduceAdd, Nat.reduceMul, Int.reduceToNat, Int.reduceLE, Int.reduceLT, Int.reduceEq, Int.reduceNe, Nat.reduceLeDiff, Int.reducePow, Nat.reducePow, Nat.reduceLT, Nat.reduceSub, Nat.reduceMod, Nat.reduceDiv, slot_neg, slot_pos, T.ag_3, T.ag_79, T.ag_9, T.es_65, T.es_71, T.fo_79_0, T.fo_79_1, T.fo_79_2, T.fo_79_3, T.fo_79_4, T.fo_82_0, T.fo_82_1, T.gf_28, T.gf_29, T.gf_30, T.gf_31, T.gf_32, T.gf_33, T.gf_34, T.gf_35, T.gf_36, T.gf_37, T.gf_38, T.gf_9, T.ib_25, T.ib_3, T.ib_4, T.ib_66, T.ib_9, T.ii_65, T.ii_71, T.ip_25, T.ip_3, T.ip_4, T.ip_66, T.ip_9, T.pl_77, T.s8_65, T.s8_71, T.sl_65, T.sl_71, T.st_65, T.st_71, T.un_65, T.un_71, T.zo_77, T.zo_79, p1, p8, p10, p11, p12, e9]
              exact ⟨o1, o2, o3, _, D3, v3, o4, by show c.puts ≤ _; omega, o5⟩
            · have c3 : (what = 3) = False := eq_false h3
              simp (config := { dsimp := false, maxSteps := 10000000 }) (disch := omega) only [go_sem, reduceIte, Nat.reduceEqDiff, reduceCtorEq, Nat.reduceAdd, Nat.reduceMul, Int.reduceToNat, Int.reduceLE, Int.reduceLT, Int.reduceEq, Int.reduceNe, Nat.reduceLeDiff, Int.reducePow, Nat.reducePow, Nat.reduceLT, Nat.reduceSub, Nat.reduceMod, Nat.reduceDiv, slot_neg, slot_pos, T.ag_3, T.ag_79, T.ag_9, T.es_65, T.es_71, T.fo_79_0, T.fo_79_1, T.fo_79_2, T.fo_79_3, T.fo_79_4, T.fo_82_0, T.fo_82_1, T.gf_28, T.gf_29, T.gf_30, T.gf_31, T.gf_32, T.gf_33, T.gf_34, T.gf_35, T.gf_36, T.gf_37, T.gf_38, T.gf_9, T.ib_25, T.ib_3, T.ib_4, T.ib_66, T.ib_9, T.ii_65, T.ii_71, T.ip_25, T.ip_3, T.ip_4, T.ip_66, T.ip_9, T.pl_77, T.s8_65, T.s8_71, T.sl_65, T.sl_71, T.st_65, T.st_71, T.un_65, T.un_71, T.zo_77, T.zo_79, c3]
              refine CodeH.condF (okc hoks).1 rfl ?_
              replace hoks := (okc hoks).2.2
              refine CodeH.of_vc [] hm hoks ?_
              simp (config := { dsimp := false, maxSteps := 10000000 }) (disch := omega) only [go_sem, reduceIte, Nat.reduceEqDiff, reduceCtorEq, Nat.reduceAdd, Nat.reduceMul, Int.reduceToNat, Int.reduceLE, Int.reduceLT, Int.reduceEq, Int.reduceNe, Nat.reduceLeDiff, Int.reducePow, Nat.reducePow, Nat.reduceLT, Nat.reduceSub, Nat.reduceMod, Nat.reduceDiv, slot_neg, slot_pos, T.ag_3, T.ag_79, T.ag_9, T.es_65, T.es_71, T.fo_79_0, T.fo_79_1, T.fo_79_2, T.fo_79_3, T.fo_79_4, T.fo_82_0, T.fo_82_1, T.gf_28, T.gf_29, T.gf_30, T.gf_31, T.gf_32, T.gf_33, T.gf_34, T.gf_35, T.gf_36, T.gf_37, T.gf_38, T.gf_9, T.ib_25, T.ib_3, T.ib_4, T.ib_66, T.ib_9, T.ii_65, T.ii_71, T.ip_25, T.ip_3, T.ip_4, T.ip_66, T.ip_9, T.pl_77, T.s8_65, T.s8_71, T.sl_65, T.sl_71, T.st_65, T.st_71, T.un_65, T.un_71, T.zo_77, T.zo_79, p1, p8, p10, p11, p12]
              have n0 := hUH.1
              exact ⟨gv, by omega, hUv, c, D, v, hTv, by omega, fun d hd => ⟨hDh d hd, by have := hDH d hd; omega⟩⟩
      · clear hTv gv uv hUv hT hpu hDh hUH q1 q8 q10 q11 p1 p8 p10 p11 p12 hqe j1 j2 he' hRe hxa hDH nv
        rintro r2 Hw ⟨p1, p8, p10, p11, p12, gw, hnw, hUw, c, D, v, hT, hpu, hDw⟩
        replace hokb := okr hokb
        have hmW := hT.rf.lt
        have hpW := hT.ca.lt
        have hidW := hT.ca.map.elim fun cl hM => hM.lt
        have hDW := hT.rf.row.lt
        have hmne : m ≠ H.next ∧ p ≠ H.next ∧ id ≠ H.next := by omega
        refine CodeH.seq' (CodeH.of_vc [] hm (okl hokb) ?_)
        replace hokb := okr hokb
        simp (config := { dsimp := false, maxSteps := 10000000 }) (disch := omega) only [go_sem, reduceIte, Nat.reduceEqDiff, reduceCtorEq, Nat.reduceAdd, Nat.reduceMul, Int.reduceToNat, Int.reduceLE, Int.reduceLT, Int.reduceEq, Int.reduceNe, Nat.reduceLeDiff, Int.reducePow, Nat.reducePow, Nat.reduceLT, Nat.reduceSub, Nat.reduceMod, Nat.reduceDiv, slot_neg, slot_pos, T.ag_3, T.ag_79, T.ag_9, T.es_65, T.es_71, T.fo_79_0, T.fo_79_1, T.fo_79_2, T.fo_79_3, T.fo_79_4, T.fo_82_0, T.fo_82_1, T.gf_28, T.gf_29, T.gf_30, T.gf_31, T.gf_32, T.gf_33, T.gf_34, T.gf_35, T.gf_36, T.gf_37, T.gf_38, T.gf_9, T.ib_25, T.ib_3, T.ib_4, T.ib_66, T.ib_9, T.ii_65, T.ii_71, T.ip_25, T.ip_3, T.ip_4, T.ip_66, T.ip_9, T.pl_77, T.s8_65, T.s8_71, T.sl_65, T.sl_71, T.st_65, T.st_71, T.un_65, T.un_71, T.zo_77, T.zo_79, p10, p12, gw]
        refine (Rall_ph Hw m D v c at_ hT.rf hT.ok).mono fun u2 H2 ⟨⟨D2, v2, f1, f2, f3⟩, s, Ds, f4, f5, f6, f7⟩ => ?_
        simp (config := { dsimp := false, maxSteps := 10000000 }) (disch := omega) only [go_sem, reduceIte, Nat.reduceEqDiff, reduceCtorEq, Nat.reduceAdd, Nat.reduceMul, Int.reduceToNat, Int.reduceLE, Int.reduceLT, Int.reduceEq, Int.reduceNe, Nat.reduceLeDiff, Int.reducePow, Nat.reducePow, Nat.reduceLT, Nat.reduceSub, Nat.reduceMod, Nat.reduceDiv, slot_neg, slot_pos, T.ag_3, T.ag_79, T.ag_9, T.es_65, T.es_71, T.fo_79_0, T.fo_79_1, T.fo_79_2, T.fo_79_3, T.fo_79_4, T.fo_82_0, T.fo_82_1, T.gf_28, T.gf_29, T.gf_30, T.gf_31, T.gf_32, T.gf_33, T.gf_34, T.gf_35, T.gf_36, T.gf_37, T.gf_38, T.gf_9, T.ib_25, T.ib_3, T.ib_4, T.ib_66, T.ib_9, T.ii_65, T.ii_71, T.ip_25, T.ip_3, T.ip_4, T.ip_66, T.ip_9, T.pl_77, T.s8_65, T.s8_71, T.sl_65, T.sl_71, T.st_65, T.st_71, T.un_65, T.un_71, T.zo_77, T.zo_79]
        have gw2 : H2.get H.next = .live (.cells [.int .i64 what, .string (str key), .int .i64 val, .int .i64 keep, .int .i64 at_] .own) := (f3.2 _ hnw (by simp; exact fun e => hmne.1 e.symm)).trans gw
        have n2 := f3.1
        have hC2 : CaR isStrV H2 p id c := hT.ca.upd f3 (by simp; exact hT.mp.symm) (by simp; exact hT.mi.symm)
        refine CodeH.seq' (CodeH.of_vc [] hm (okl hokb) ?_)
        replace hokb := okr hokb
        simp (config := { dsimp := false, maxSteps := 10000000 }) (disch := omega) only [go_sem, reduceIte, Nat.reduceEqDiff, reduceCtorEq, Nat.reduceAdd, Nat.reduceMul, Int.reduceToNat, Int.reduceLE, Int.reduceLT, Int.reduceEq, Int.reduceNe, Nat.reduceLeDiff, Int.reducePow, Nat.reducePow, Nat.reduceLT, Nat.reduceSub, Nat.reduceMod, Nat.reduceDiv, slot_neg, slot_pos, T.ag_3, T.ag_79, T.ag_9, T.es_65, T.es_71, T.fo_79_0, T.fo_79_1, T.fo_79_2, T.fo_79_3, T.fo_79_4, T.fo_82_0, T.fo_82_1, T.gf_28, T.gf_29, T.gf_30, T.gf_31, T.gf_32, T.gf_33, T.gf_34, T.gf_35, T.gf_36, T.gf_37, T.gf_38, T.gf_9, T.ib_25, T.ib_3, T.ib_4, T.ib_66, T.ib_9, T.ii_65, T.ii_71, T.ip_25, T.ip_3, T.ip_4, T.ip_66, T.ip_9, T.pl_77, T.s8_65, T.s8_71, T.sl_65, T.sl_71, T.st_65, T.st_71, T.un_65, T.un_71, T.zo_77, T.zo_79, p8, p12, gw2]
        refine (things_ph H2 p id c at_ hC2 hT.ok).mono fun u3 H3 ⟨g1, g2, t3, Dt, g4, g5, g6, g7⟩ => ?_
        simp (config := { dsimp := false, maxSteps := 10000000 }) (disch := omega) only [go_sem, reduceIte, Nat.reduceEqDiff, reduceCtorEq, Nat.reduceAdd, Nat.reduceMul, Int.reduceToNat, Int.reduceLE, Int.reduceLT, Int.reduceEq, Int.reduceNe, Nat.reduceLeDiff, Int.reducePow, Nat.reducePow, Nat.reduceLT, Nat.reduceSub, Nat.reduceMod, Nat.reduceDiv, slot_neg, slot_pos, T.ag_3, T.ag_79, T.ag_9, T.es_65, T.es_71, T.fo_79_0, T.fo_79_1, T.fo_79_2, T.fo_79_3, T.fo_79_4, T.fo_82_0, T.fo_82_1, T.gf_28, T.gf_29, T.gf_30, T.gf_31, T.gf_32, T.gf_33, T.gf_34, T.gf_35, T.gf_36, T.gf_37, T.gf_38, T.gf_9, T.ib_25, T.ib_3, T.ib_4, T.ib_66, T.ib_9, T.ii_65, T.ii_71, T.ip_25, T.ip_3, T.ip_4, T.ip_66, T.ip_9, T.pl_77, T.s8_65, T.s8_71, T.sl_65, T.sl_71, T.st_65, T.st_71, T.un_65, T.un_71, T.zo_77, T.zo_79]
        have hts : t3 = s := by
          have hok1 := hT.ok.time at_
          refine List.Perm.eq_of_pairwise (fun a b ha hb h1 h2 => put_inj hok1.asc (g6.subset ha) (f6.subset hb) ?_) g7 f7 (g6.trans f6.symm)
          unfold leT at h1 h2; omega
        subst hts
        have n3 := g2.1
        have gw3 : H3.get H.next = .live (.cells [.int .i64 what, .string (str key), .int .i64 val, .int .i64 keep, .int .i64 at_] .own) := (g2.2 _ (by omega) (by simp; exact ⟨fun e => hmne.2.1 e.symm, fun e => hmne.2.2 e.symm⟩)).trans gw2
        have hDs : ∀ d ∈ Ds, d ≠ p ∧ d ≠ id := fun d hd => by have := f5 d hd; omega
        have hDt : ∀ d ∈ Dt, d ≠ p ∧ d ≠ id := fun d hd => by have := g5 d hd; omega
        have hs3 := f4.upd g2 fun d hd => by simp; exact hDs d hd
        have hlen1 : t3.length = (timeC c at_).l.length := g6.length_eq
        have hok1 := hT.ok.time at_
        have hokl := hok1.len
        refine CodeH.seq' (CodeH.of_vc [] hm (okl hokb) ?_)
        replace hokb := okr hokb
        simp (config := { dsimp := false, maxSteps := 10000000 }) (disch := omega) only [go_sem, reduceIte, Nat.reduceEqDiff, reduceCtorEq, Nat.reduceAdd, Nat.reduceMul, Int.reduceToNat, Int.reduceLE, Int.reduceLT, Int.reduceEq, Int.reduceNe, Nat.reduceLeDiff, Int.reducePow, Nat.reducePow, Nat.reduceLT, Nat.reduceSub, Nat.reduceMod, Nat.reduceDiv, slot_neg, slot_pos, T.ag_3, T.ag_79, T.ag_9, T.es_65, T.es_71, T.fo_79_0, T.fo_79_1, T.fo_79_2, T.fo_79_3, T.fo_79_4, T.fo_82_0, T.fo_82_1, T.gf_28, T.gf_29, T.gf_30, T.gf_31, T.gf_32, T.gf_33, T.gf_34, T.gf_35, T.gf_36, T.gf_37, T.gf_38, T.gf_9, T.ib_25, T.ib_3, T.ib_4, T.ib_66, T.ib_9, T.ii_65, T.ii_71, T.ip_25, T.ip_3, T.ip_4, T.ip_66, T.ip_9, T.pl_77, T.s8_65, T.s8_71, T.sl_65, T.sl_71, T.st_65, T.st_71, T.un_65, T.un_71, T.zo_77, T.zo_79, p8, p12, gw3]
        refine (CountS_ph H3 p id (timeC c at_) at_ g1 (by omega)).mono fun u4 H4 ⟨k1, k2, k3⟩ => ?_
        rw [time_idem] at k1 k2
        subst k1
        have n4 := k3.1
        have hs4 := hs3.upd k3 fun d hd => by simp; exact hDs d hd
        have ht4 := g4.upd k3 fun d hd => by simp; exact hDt d hd
        have e8 : ((timeC c at_).l.length : Int) = (t3.length : Int) := by rw [hlen1]
        obtain ⟨As, sts, hus⟩ := hs4.form
        obtain ⟨At, stt, hut⟩ := ht4.form
        simp (config := { dsimp := false, maxSteps := 10000000 }) (disch := omega) only [go_sem, reduceIte, Nat.reduceEqDiff, reduceCtorEq, Nat.reduceAdd, Nat.reduceMul, Int.reduceToNat, Int.reduceLE, Int.reduceLT, Int.reduceEq, Int.reduceNe, Nat.reduceLeDiff, Int.reducePow, Nat.reducePow, Nat.reduceLT, Nat.reduceSub, Nat.reduceMod, Nat.reduceDiv, slot_neg, slot_pos, T.ag_3, T.ag_79, T.ag_9, T.es_65, T.es_71, T.fo_79_0, T.fo_79_1, T.fo_79_2, T.fo_79_3, T.fo_79_4, T.fo_82_0, T.fo_82_1, T.gf_28, T.gf_29, T.gf_30, T.gf_31, T.gf_32, T.gf_33, T.gf_34, T.gf_35, T.gf_36, T.gf_37, T.gf_38, T.gf_9, T.ib_25, T.ib_3, T.ib_4, T.ib_66, T.ib_9, T.ii_65, T.ii_71, T.ip_25, T.ip_3, T.ip_4, T.ip_66, T.ip_9, T.pl_77, T.s8_65, T.s8_71, T.sl_65, T.sl_71, T.st_65, T.st_71, T.un_65, T.un_71, T.zo_77, T.zo_79, hus, hut, e8]
        have hR4 : RfR H4 m D2 v2 (timeC c at_) := (f1.upd g2 (by simp; exact ⟨hT.mp, hT.mi⟩) (fun d hd => by have := f2 d hd; simp; omega)).upd k3 (by simp; exact ⟨hT.mp, hT.mi⟩) (fun d hd => by have := f2 d hd; simp; omega)
        have hT4 : TT H4 p id m D2 v2 (timeC c at_) := ⟨k2, hR4, hok1, hT.str.time _, hT.int.time _, hT.mp, hT.mi, fun hd => by have := f2 p hd; omega, fun hd => by have := f2 id hd; omega⟩
        have hU4 : Upd h H4 [] := ((hUw.trans f3 fun d hd => .inr (hfresh d (by simp at hd; omega))).trans g2 fun d hd => .inr (hfresh d (by simp at hd; omega))).trans k3 fun d hd => .inr (hfresh d (by simp at hd; omega))
        have hD4 : ∀ d ∈ D2, h.next ≤ d := fun d hd => by have := f2 d hd; have := hUw.1; omega
        have hst3 : ∀ x ∈ t3, isStrV x.key := fun x hx => hT4.str x (g6.subset hx)
        have hin3 : ∀ x ∈ t3, isIntV x.val := fun x hx => hT4.int x (g6.subset hx)
        have htl : t3.length ≤ 10000 := by omega
        have hpu4 : (timeC c at_).puts ≤ i + 1 := hpu
        refine CodeH.gen (fun r' h' => H4 = h' ∧ r' 1 = s1 ∧ r' 8 = .pointer (some ⟨p, 0, none⟩) ∧ r' 10 = .pointer (some ⟨m, 0, none⟩) ∧ r' 11 = .int .i64 i ∧ r' 19 = u2 ∧ r' 20 = u3) ⟨rfl, by simp [upd, p1], by simp [upd, p8], by simp [upd, p10], by simp [upd, p11], by simp [upd, hus], by simp [upd, hut]⟩ fun r' h' ⟨hh, p1, p8, p10, p11, p19, p20⟩ => ?_
        subst hh
        refine CodeH.of_vc [] hm hokb ?_
        simp (config := { dsimp := false, maxSteps := 10000000 }) (disch := omega) only [go_sem, reduceIte, Nat.reduceEqDiff, reduceCtorEq, Nat.reduceAdd, Nat.reduceMul, Int.reduceToNat, Int.reduceLE, Int.reduceLT, Int.reduceEq, Int.reduceNe, Nat.reduceLeDiff, Int.reducePow, Nat.reducePow, Nat.reduceLT, Nat.reduceSub, Nat.reduceMod, Nat.reduceDiv, slot_neg, slot_pos, T.ag_3, T.ag_79, T.ag_9, T.es_65, T.es_71, T.fo_79_0, T.fo_79_1, T.fo_79_2, T.fo_79_3, T.fo_79_4, T.fo_82_0, T.fo_82_1, T.gf_28, T.gf_29, T.gf_30, T.gf_31, T.gf_32, T.gf_33, T.gf_34, T.gf_35, T.gf_36, T.gf_37, T.gf_38, T.gf_9, T.ib_25, T.ib_3, T.ib_4, T.ib_66, T.ib_9, T.ii_65, T.ii_71, T.ip_25, T.ip_3, T.ip_4, T.ip_66, T.ip_9, T.pl_77, T.s8_65, T.s8_71, T.sl_65, T.sl_71, T.st_65, T.st_71, T.un_65, T.un_71, T.zo_77, T.zo_79]
        refine loop_intro [] hm (fun r H => H = H4 ∧ ∃ (j : Nat), j ≤ t3.length ∧ r 1 = s1 ∧ r 8 = .pointer (some ⟨p, 0, none⟩) ∧ r 10 = .pointer (some ⟨m, 0, none⟩) ∧ r 11 = .int .i64 i ∧ r 19 = u2 ∧ r 20 = u3 ∧ r 21 = .int .i64 j) (fun r _ => match r 21 with | .int _ j => t3.length - j.toNat | _ => 0) ?_ ?_
        · exact ⟨rfl, 0, by omega, by simp [upd, p1], by simp [upd, p8], by simp [upd, p10], by simp [upd, p11], by simp [upd, p19], by simp [upd, p20], by simp [upd]⟩
        · rintro r' H' ⟨hH', j, hj, p1, p8, p10, p11, p19, p20, p21⟩
          subst hH'
          by_cases hjl : j < t3.length
          · have hjl' : ((j : Int) < (t3.length : Int)) = True := eq_true (by omega)
            have hxj : t3[j]? = some t3[j] := List.getElem?_eq_getElem hjl
            have wj : IntKind.i64.wrap ((j : Int) + 1) = ((j + 1 : Nat) : Int) := by rw [i64wrap] <;> omega
            obtain ⟨qa, oa, va, wa, ea, ga, _, _, ka, xa, _⟩ := row_th hs4.row hxj
            obtain ⟨qb, ob, vb, wb, eb, gb, kb, xb⟩ := row_te ht4.row hxj
            obtain ⟨sk, hsk⟩ := hst3 t3[j] (List.getElem_mem _)
            obtain ⟨ls, rfl⟩ := str_ex sk
            obtain ⟨nv, hnv⟩ := hin3 t3[j] (List.getElem_mem _)
            rw [hsk] at ka kb
            rw [hnv] at xa xb
            rw [ea] at p19
            rw [eb] at p20
            simp (config := { dsimp := false, maxSteps := 10000000 }) (disch := omega) only [go_sem, reduceIte, Nat.reduceEqDiff, reduceCtorEq, Nat.reduceAdd, Nat.reduceMul, Int.reduceToNat, Int.reduceLE, Int.reduceLT, Int.reduceEq, Int.reduceNe, Nat.reduceLeDiff, Int.reducePow, Nat.reducePow, Nat.reduceLT, Nat.reduceSub, Nat.reduceMod, Nat.reduceDiv, slot_neg, slot_pos, T.ag_3, T.ag_79, T.ag_9, T.es_65, T.es_71, T.fo_79_0, T.fo_79_1, T.fo_79_2, T.fo_79_3, T.fo_79_4, T.fo_82_0, T.fo_82_1, T.gf_28, T.gf_29, T.gf_30, T.gf_31, T.gf_32, T.gf_33, T.gf_34, T.gf_35, T.gf_36, T.gf_37, T.gf_38, T.gf_9, T.ib_25, T.ib_3, T.ib_4, T.ib_66, T.ib_9, T.ii_65, T.ii_71, T.ip_25, T.ip_3, T.ip_4, T.ip_66, T.ip_9, T.pl_77, T.s8_65, T.s8_71, T.sl_65, T.sl_71, T.st_65, T.st_71, T.un_65, T.un_71, T.zo_77, T.zo_79, p19, p20, p21, hjl', ga, gb, ka, kb, xa, xb, wj, list_str]
            exact ⟨⟨j + 1, hjl, p1, p8, p10, p11, ea.symm, eb.symm, rfl⟩, by omega⟩
          · have hjl' : ((j : Int) < (t3.length : Int)) = False := eq_false (by omega)
            rw [hus] at p19
            simp (config := { dsimp := false, maxSteps := 10000000 }) (disch := omega) only [go_sem, reduceIte, Nat.reduceEqDiff, reduceCtorEq, Nat.reduceAdd, Nat.reduceMul, Int.reduceToNat, Int.reduceLE, Int.reduceLT, Int.reduceEq, Int.reduceNe, Nat.reduceLeDiff, Int.reducePow, Nat.reducePow, Nat.reduceLT, Nat.reduceSub, Nat.reduceMod, Nat.reduceDiv, slot_neg, slot_pos, T.ag_3, T.ag_79, T.ag_9, T.es_65, T.es_71, T.fo_79_0, T.fo_79_1, T.fo_79_2, T.fo_79_3, T.fo_79_4, T.fo_82_0, T.fo_82_1, T.gf_28, T.gf_29, T.gf_30, T.gf_31, T.gf_32, T.gf_33, T.gf_34, T.gf_35, T.gf_36, T.gf_37, T.gf_38, T.gf_9, T.ib_25, T.ib_3, T.ib_4, T.ib_66, T.ib_9, T.ii_65, T.ii_71, T.ip_25, T.ip_3, T.ip_4, T.ip_66, T.ip_9, T.pl_77, T.s8_65, T.s8_71, T.sl_65, T.sl_71, T.st_65, T.st_71, T.un_65, T.un_71, T.zo_77, T.zo_79, p19, p21, hjl']
            refine CodeH.of_vc [] hm hok ?_
            have wi : IntKind.i64.wrap ((i : Int) + 1) = ((i + 1 : Nat) : Int) := by rw [i64wrap] <;> omega
            simp (config := { dsimp := false, maxSteps := 10000000 }) (disch := omega) only [go_sem, reduceIte, Nat.reduceEqDiff, reduceCtorEq, Nat.reduceAdd, Nat.reduceMul, Int.reduceToNat, Int.reduceLE, Int.reduceLT, Int.reduceEq, Int.reduceNe, Nat.reduceLeDiff, Int.reducePow, Nat.reducePow, Nat.reduceLT, Nat.reduceSub, Nat.reduceMod, Nat.reduceDiv, slot_neg, slot_pos, T.ag_3, T.ag_79, T.ag_9, T.es_65, T.es_71, T.fo_79_0, T.fo_79_1, T.fo_79_2, T.fo_79_3, T.fo_79_4, T.fo_82_0, T.fo_82_1, T.gf_28, T.gf_29, T.gf_30, T.gf_31, T.gf_32, T.gf_33, T.gf_34, T.gf_35, T.gf_36, T.gf_37, T.gf_38, T.gf_9, T.ib_25, T.ib_3, T.ib_4, T.ib_66, T.ib_9, T.ii_65, T.ii_71, T.ip_25, T.ip_3, T.ip_4, T.ip_66, T.ip_9, T.pl_77, T.s8_65, T.s8_71, T.sl_65, T.sl_71, T.st_65, T.st_71, T.un_65, T.un_71, T.zo_77, T.zo_79, p1, p8, p10, p11, wi]
            exact ⟨⟨i + 1, _, D2, v2, hlt.1, hlt.2, hT4, hpu4, hD4, hU4, e1, rfl⟩, by omega⟩
    · by_cases h1 : i < l1.length
      · have hlt' : ((i : Int) < (l1.length : Int)) = True := eq_true (by omega)
        have h80 : ((i : Int) < 80) = False := eq_false (by omega)
        refine CodeH.seq' (CodeH.of_vc [] hm (okl hok) ?_)
        simp (config := { dsimp := false, maxSteps := 10000000 }) (disch := omega) only [go_sem, reduceIte, Nat.reduceEqDiff, reduceCtorEq, Nat.reduceAdd, Nat.reduceMul, Int.reduceToNat, Int.reduceLE, Int.reduceLT, Int.reduceEq, Int.reduceNe, Nat.reduceLeDiff, Int.reducePow, Nat.reducePow, Nat.reduceLT, Nat.reduceSub, Nat.reduceMod, Nat.reduceDiv, slot_neg, slot_pos, T.ag_3, T.ag_79, T.ag_9, T.es_65, T.es_71, T.fo_79_0, T.fo_79_1, T.fo_79_2, T.fo_79_3, T.fo_79_4, T.fo_82_0, T.fo_82_1, T.gf_28, T.gf_29, T.gf_30, T.gf_31, T.gf_32, T.gf_33, T.gf_34, T.gf_35, T.gf_36, T.gf_37, T.gf_38, T.gf_9, T.ib_25, T.ib_3, T.ib_4, T.ib_66, T.ib_9, T.ii_65, T.ii_71, T.ip_25, T.ip_3, T.ip_4, T.ip_66, T.ip_9, T.pl_77, T.s8_65, T.s8_71, T.sl_65, T.sl_71, T.st_65, T.st_71, T.un_65, T.un_71, T.zo_77, T.zo_79, q1, q11, e1, hlt', h80]
        (refine CodeH.of_vc [] hm (by kernel_rfl) ?_; simp (config := { dsimp := false, maxSteps := 10000000 }) (disch := omega) only [go_sem, reduceIte, Nat.reduceEqDiff, reduceCtorEq, Nat.reduceAdd, Nat.reduceMul, Int.reduceToNat, Int.reduceLE, Int.reduceLT, Int.reduceEq, Int.reduceNe, Nat.reduceLeDiff, Int.reducePow, Nat.reducePow, Nat.reduceLT, Nat.reduceSub, Nat.reduceMod, Nat.reduceDiv, slot_neg, slot_pos, T.ag_3, T.ag_79, T.ag_9, T.es_65, T.es_71, T.fo_79_0, T.fo_79_1, T.fo_79_2, T.fo_79_3, T.fo_79_4, T.fo_82_0, T.fo_82_1, T.gf_28, T.gf_29, T.gf_30, T.gf_31, T.gf_32, T.gf_33, T.gf_34, T.gf_35, T.gf_36, T.gf_37, T.gf_38, T.gf_9, T.ib_25, T.ib_3, T.ib_4, T.ib_66, T.ib_9, T.ii_65, T.ii_71, T.ip_25, T.ip_3, T.ip_4, T.ip_66, T.ip_9, T.pl_77, T.s8_65, T.s8_71, T.sl_65, T.sl_71, T.st_65, T.st_71, T.un_65, T.un_71, T.zo_77, T.zo_79, init_a])
      · have hlt' : ((i : Int) < (l1.length : Int)) = False := eq_false (by omega)
        refine CodeH.seq' (CodeH.of_vc [] hm (okl hok) ?_)
        simp (config := { dsimp := false, maxSteps := 10000000 }) (disch := omega) only [go_sem, reduceIte, Nat.reduceEqDiff, reduceCtorEq, Nat.reduceAdd, Nat.reduceMul, Int.reduceToNat, Int.reduceLE, Int.reduceLT, Int.reduceEq, Int.reduceNe, Nat.reduceLeDiff, Int.reducePow, Nat.reducePow, Nat.reduceLT, Nat.reduceSub, Nat.reduceMod, Nat.reduceDiv, slot_neg, slot_pos, T.ag_3, T.ag_79, T.ag_9, T.es_65, T.es_71, T.fo_79_0, T.fo_79_1, T.fo_79_2, T.fo_79_3, T.fo_79_4, T.fo_82_0, T.fo_82_1, T.gf_28, T.gf_29, T.gf_30, T.gf_31, T.gf_32, T.gf_33, T.gf_34, T.gf_35, T.gf_36, T.gf_37, T.gf_38, T.gf_9, T.ib_25, T.ib_3, T.ib_4, T.ib_66, T.ib_9, T.ii_65, T.ii_71, T.ip_25, T.ip_3, T.ip_4, T.ip_66, T.ip_9, T.pl_77, T.s8_65, T.s8_71, T.sl_65, T.sl_71, T.st_65, T.st_71, T.un_65, T.un_71, T.zo_77, T.zo_79, q1, q11, e1, hlt']
        (refine CodeH.of_vc [] hm (by kernel_rfl) ?_; simp (config := { dsimp := false, maxSteps := 10000000 }) (disch := omega) only [go_sem, reduceIte, Nat.reduceEqDiff, reduceCtorEq, Nat.reduceAdd, Nat.reduceMul, Int.reduceToNat, Int.reduceLE, Int.reduceLT, Int.reduceEq, Int.reduceNe, Nat.reduceLeDiff, Int.reducePow, Nat.reducePow, Nat.reduceLT, Nat.reduceSub, Nat.reduceMod, Nat.reduceDiv, slot_neg, slot_pos, T.ag_3, T.ag_79, T.ag_9, T.es_65, T.es_71, T.fo_79_0, T.fo_79_1, T.fo_79_2, T.fo_79_3, T.fo_79_4, T.fo_82_0, T.fo_82_1, T.gf_28, T.gf_29, T.gf_30, T.gf_31, T.gf_32, T.gf_33, T.gf_34, T.gf_35, T.gf_36, T.gf_37, T.gf_38, T.gf_9, T.ib_25, T.ib_3, T.ib_4, T.ib_66, T.ib_9, T.ii_65, T.ii_71, T.ip_25, T.ip_3, T.ip_4, T.ip_66, T.ip_9, T.pl_77, T.s8_65, T.s8_71, T.sl_65, T.sl_71, T.st_65, T.st_71, T.un_65, T.un_71, T.zo_77, T.zo_79, init_a])
end Ph
