import Derived.Test.YtcbgjjbbeeoekaaDoorM2
import Derived.Test.YtcbgjjbbeeoekaaDoorE12
set_option maxRecDepth 100000
set_option maxHeartbeats 4000000
set_option linter.unusedSimpArgs false
set_option linter.unusedVariables false
namespace Ph
open Go Go.Proofs
attribute [local irreducible] Value.cells
attribute [local go_sem ↓] y_move y_assign y_pick y_nil y_bin y_un y_fa y_field y_ext y_ia y_ix y_slice y_build y_mf y_rg y_nx y_en y_mm y_lk y_mu y_del y_load y_len y_cap y_min y_max y_conv y_bs y_mk y_alloc y_box y_store y_clear y_app y_callf y_callt s_move s_assign s_pick s_nil s_bin s_un s_fa s_field s_ext s_ia s_ix s_slice s_conv s_build s_bs s_mf s_alloc s_box s_rg s_nx s_en s_mm s_lk s_mu s_del s_load s_store s_len s_clear s_cap s_min s_max s_app s_call q_call q_move q_assign q_pick q_nil q_bin q_un q_fa q_field q_ext q_ia q_ix q_slice q_conv q_build q_mf q_lk q_load q_len q_cap q_min q_max l_nil l_move l_assign l_pick l_nilc l_bin l_un l_fa l_field l_ext l_ia l_ix l_slice l_conv l_build l_mf l_lk l_load l_len l_cap l_min l_max l_call put_eq putN_eq o_nil o_plain o_gate v_nil v_plain v_gate vc_skip vc_region vc_seq vc_cond vc_block vc_loop vc_rf vc_exit vc_ret blk_normal blk_ret blk_exit on_normal on_ret on_exit vc_drawn draw_q s_mk l_bs l_mk l_rg l_nx l_en l_mm l_mu l_del l_alloc l_box l_store l_app l_clear pl_done pl_takeS pl_take pl_alt pl_stop one_plain one_gate
attribute [local go_sem] clear_nil clear_sl onAgg_a onTuple_t onFn_f onFn_y onFunc_f c_int c_nil c_sl c_str sl_sl sl_nil sl_str ix_str ix_agg n_nil n_sl n_str app_eq app_eqZ k_nil k_sl cap_n len_sl len_str len_mn len_m onMap_m onIter_i rg_n rg_m nx_p en_p lk_n lk_m up_m setM_n setM_s del_n del_m kt_s kt_i upd_some upd_none ev_tmp ev_const ev_func rd_some gdst_eq otmp_t otmp_c get_put get_alloc next_put next_alloc get_app next_app init_a resV1 resV2 onPtr_ptr onBool_b onInt_i onSlice_s onSome_s onCells_c lett_eq gate_tt gate_tf gate_ff gate_ft gate_dt gate_df also_eq bin un minmax io_none io_some bo_none bo_some partOf List.getElem?_cons_zero List.getElem?_cons_succ List.getElem?_toArray Option.map_some Option.map_none Option.bind_some ne_eq not_true_eq_false not_false_eq_true false_implies true_implies and_true true_and and_self Bool.false_eq_true Nat.zero_add Nat.add_zero List.size_toArray List.length_cons List.length_nil List.map_toArray List.map_cons List.map_nil Array.getD_eq_getD_getElem? Option.getD_some Bool.not_true Bool.not_false Bool.not_eq_true Option.isNone_some Option.isNone_none List.append_toArray List.append_nil List.nil_append List.cons_append decide_true decide_false in_nil in_cons Bool.and_false Bool.and_true Bool.or_false Bool.true_or Bool.false_or get_mask next_mask get_unmask next_unmask ac_move ac_assign ac_pick ac_nil ac_bin ac_un ac_fa ac_field ac_ext ac_ia ac_ix ac_slice ac_build ac_mf ac_call ac_len ac_lk ac_cap ac_min ac_max accM_m accM_n accM_s accM_t ac_load ac_conv accP_p accS_s accS_n accS_i accS_t fixed_ro fixed_lock fixed_own get_ro next_ro lock_live' lock_cells List.mem_cons List.not_mem_nil or_false false_or or_true true_or and_false false_and IntKind.bits Int.natCast_zero Int.natCast_one size_str data_str list_str mk_str ext_str app_str bytes_str w_byte w_byteu Int.toNat_natCast Int.toNat_zero Int.toNat_one Nat.sub_zero ge_iff_le gt_iff_lt Nat.le_refl Int.le_refl List.drop_zero Int.ofNat_eq_natCast Int.natCast_nonneg Int.sub_zero oc_int oc_bool oc_str oc_ptr oc_sl oc_map oc_func List.set_cons_zero List.set_cons_succ Nat.mul_one List.all_cons List.all_nil Bool.and_self res_nil res_tmp res_cell tup_one tup_two tup_nil fill_nil repl_zero cells_agg List.append_eq List.toList_toArray Nat.zero_mul Nat.one_mul repl_one repl_two onSome_build fill_cons onSome_lit splice_eq cells_int cells_bool cells_str cells_ptr cells_sl cells_map cells_func loadK_n loadK_s load_k storeK_n storeK_s store_k all_arr List.take_zero List.take_succ_cons List.drop_succ_cons List.take_nil List.drop_nil lk_own lk_ro lk_lock lk_lk fixed_lk gate_nt gate_nf gate3_b gate3_u undef Bool.true_and Bool.false_and nx_l nx_r nx_lt put_put resV0
attribute [local go_sem] str_inj size_str
/-! The document's Get of a name. -/
def endI (e : Nat) : Int := if e = 0 then -1 else (e : Int)
theorem far_doc {n c : Nat} (h1 : 192 ≤ n) (h2 : n < 256) (h3 : c < 256) : IntKind.i64.wrap (IntKind.i64.wrap (IntKind.i64.wrap ((n : Int) - 192) * 256) + (c : Int)) = (((n - 192) * 256 + c : Nat) : Int) := by
  rw [i64wrap (x := (n : Int) - 192) (by omega) (by omega), i64wrap (x := ((n : Int) - 192) * 256) (by omega) (by omega), i64wrap (by omega) (by omega)]; omega
theorem DocGet_ph (h : Heap) (b : List UInt8) (at_ : Int) (hb : b.length < 4611686018427387904) :
    @CallsH Tryd.prog 15 #[.string (str b), .int .i64 at_] h ⟨fun u H => u = .tuple #[.string (str (getT b at_).1), .int .i64 ((getT b at_).2.1 : Nat), .int .i64 (getT b at_).2.2] ∧ Upd h H []⟩ := by
  unfold getT
  by_cases h1 : at_ < 0
  · (refine calls_of_vc [] hm Tryd.func15 rfl (ts := [4, 5, 6]) rfl (by kernel_rfl) (by simp) ?_; simp (config := { dsimp := false, maxSteps := 10000000 }) (disch := omega) only [go_sem, reduceIte, Nat.reduceEqDiff, reduceCtorEq, Nat.reduceAdd, Nat.reduceMul, Int.reduceToNat, Int.reduceLE, Int.reduceLT, Int.reduceEq, Int.reduceNe, Nat.reduceLeDiff, Int.reducePow, Nat.reducePow, Nat.reduceLT, Nat.reduceSub, Nat.reduceMod, Nat.reduceDiv, slot_neg, slot_pos, T.eb_32, T.es_9, T.ez_32, T.gf_26, T.ib_3, T.ib_5, T.ib_9, T.ii_3, T.ii_32, T.ii_5, T.ii_9, T.ip_3, T.ip_5, T.ip_9, T.s8_3, T.s8_32, T.s8_5, T.s8_9, T.sl_3, T.sl_32, T.sl_5, T.sl_9, T.st_3, T.st_32, T.st_5, T.st_9, T.un_3, T.un_32, T.un_5, T.un_9, init_a, h1, mk_str])
    exact Upd.refl _ _
  by_cases h2 : b.length < at_
  · (refine calls_of_vc [] hm Tryd.func15 rfl (ts := [4, 5, 6]) rfl (by kernel_rfl) (by simp) ?_; simp (config := { dsimp := false, maxSteps := 10000000 }) (disch := omega) only [go_sem, reduceIte, Nat.reduceEqDiff, reduceCtorEq, Nat.reduceAdd, Nat.reduceMul, Int.reduceToNat, Int.reduceLE, Int.reduceLT, Int.reduceEq, Int.reduceNe, Nat.reduceLeDiff, Int.reducePow, Nat.reducePow, Nat.reduceLT, Nat.reduceSub, Nat.reduceMod, Nat.reduceDiv, slot_neg, slot_pos, T.eb_32, T.es_9, T.ez_32, T.gf_26, T.ib_3, T.ib_5, T.ib_9, T.ii_3, T.ii_32, T.ii_5, T.ii_9, T.ip_3, T.ip_5, T.ip_9, T.s8_3, T.s8_32, T.s8_5, T.s8_9, T.sl_3, T.sl_32, T.sl_5, T.sl_9, T.st_3, T.st_32, T.st_5, T.st_9, T.un_3, T.un_32, T.un_5, T.un_9, init_a, h1, h2, mk_str])
    exact Upd.refl _ _
  obtain ⟨a0, rfl⟩ : ∃ n : Nat, at_ = n := ⟨at_.toNat, by omega⟩
  rw [if_neg (by omega), Int.toNat_natCast]
  obtain ⟨tt, hT⟩ : ∃ tt, getS b [] 0 a0 a0 = tt := ⟨_, rfl⟩
  rw [hT]
  (refine calls_of_vc [] hm Tryd.func15 rfl (ts := [4, 5, 6]) rfl (by kernel_rfl) (by simp) ?_; simp (config := { dsimp := false, maxSteps := 10000000 }) (disch := omega) only [go_sem, reduceIte, Nat.reduceEqDiff, reduceCtorEq, Nat.reduceAdd, Nat.reduceMul, Int.reduceToNat, Int.reduceLE, Int.reduceLT, Int.reduceEq, Int.reduceNe, Nat.reduceLeDiff, Int.reducePow, Nat.reducePow, Nat.reduceLT, Nat.reduceSub, Nat.reduceMod, Nat.reduceDiv, slot_neg, slot_pos, T.eb_32, T.es_9, T.ez_32, T.gf_26, T.ib_3, T.ib_5, T.ib_9, T.ii_3, T.ii_32, T.ii_5, T.ii_9, T.ip_3, T.ip_5, T.ip_9, T.s8_3, T.s8_32, T.s8_5, T.s8_9, T.sl_3, T.sl_32, T.sl_5, T.sl_9, T.st_3, T.st_32, T.st_5, T.st_9, T.un_3, T.un_32, T.un_5, T.un_9, init_a, h1, h2, mk_str])
  refine loop_intro [] hm (fun r H => ∃ (s : List UInt8) (e before a : Nat), r 0 = .string (str b) ∧ r 1 = .int .i64 (a : Int) ∧ r 7 = .string (str s) ∧ r 8 = .int .i64 (endI e) ∧ r 9 = .int .i64 (before : Int) ∧ s.length ≤ 254 ∧ before ≤ b.length ∧ a ≤ b.length + 256 + 16384 ∧ Upd h H [] ∧ tt = getS b s e before a) (fun r _ => match r 7, r 9 with | .string s, .int _ n => (255 - s.size) * (b.length + 1) + n.toNat | _, _ => 0) ?_ ?_
  · exact ⟨[], 0, a0, a0, by simp [upd, initR], by simp [upd, initR], by simp [upd], by simp [upd, endI], by simp [upd, initR], by simp, by omega, by omega, Upd.refl _ _, hT.symm⟩
  · rintro r H ⟨s, e, before, a, q0, q1, q7, q8, q9, hs, hbe, ha, hU, hg⟩
    unfold getS at hg
    by_cases hab : a < b.length
    · have c1 : ((b.length : Int) ≤ (a : Int)) = False := eq_false (by omega)
      have c1' : ((a : Int) < (b.length : Int)) = True := eq_true (by omega)
      rw [if_pos hab] at hg
      obtain ⟨n, hn⟩ : ∃ n, (b.getD a 0).toNat = n := ⟨_, rfl⟩
      have hn255 : n < 256 := by rw [← hn]; exact (b.getD a 0).toNat_lt
      rw [hn] at hg
      have wn : IntKind.i64.wrap (n : Int) = n := i64wrap (by omega) (by omega)
      have wa1 : IntKind.i64.wrap ((a : Int) + 1) = ((a + 1 : Nat) : Int) := by rw [i64wrap] <;> omega
      have wa2 : IntKind.i64.wrap ((a : Int) + 2) = ((a + 2 : Nat) : Int) := by rw [i64wrap] <;> omega
      have wa4 : IntKind.i64.wrap (((a + 1 : Nat) : Int) + (n : Int)) = ((a + 1 + n : Nat) : Int) := by rw [i64wrap] <;> omega
      have e0t : e = 0 → (endI e < 0) = True := fun he => eq_true (by unfold endI; rw [if_pos he]; decide)
      have e0f : ¬ e = 0 → (endI e < 0) = False := fun he => eq_false (by unfold endI; rw [if_neg he]; omega)
      have eI : ((e : Int) < 0) = False := eq_false (by omega)
      have een : ¬ e = 0 → endI e = (e : Int) := fun he => by unfold endI; rw [if_neg he]
      have hnI := hn
      by_cases hn0 : n = 0
      · rw [if_pos hn0] at hg
        have d0 : ((n : Int) = 0) = True := eq_true (by omega)
        by_cases hs0 : s = [] <;> by_cases he0 : e = 0
        · rw [if_pos hs0, if_pos he0] at hg
          have d1 := e0t he0
          have d2 := eq_true hs0
          simp (config := { dsimp := false, maxSteps := 10000000 }) (disch := omega) only [go_sem, reduceIte, Nat.reduceEqDiff, reduceCtorEq, Nat.reduceAdd, Nat.reduceMul, Int.reduceToNat, Int.reduceLE, Int.reduceLT, Int.reduceEq, Int.reduceNe, Nat.reduceLeDiff, Int.reducePow, Nat.reducePow, Nat.reduceLT, Nat.reduceSub, Nat.reduceMod, Nat.reduceDiv, slot_neg, slot_pos, T.eb_32, T.es_9, T.ez_32, T.gf_26, T.ib_3, T.ib_5, T.ib_9, T.ii_3, T.ii_32, T.ii_5, T.ii_9, T.ip_3, T.ip_5, T.ip_9, T.s8_3, T.s8_32, T.s8_5, T.s8_9, T.sl_3, T.sl_32, T.sl_5, T.sl_9, T.st_3, T.st_32, T.st_5, T.st_9, T.un_3, T.un_32, T.un_5, T.un_9, q0, q1, q7, q8, q9, c1, c1', hnI, wn, d0, d1, d2, wa1, mk_str]
          rw [hg]; exact ⟨rfl, hU⟩
        · rw [if_pos hs0, if_neg he0] at hg
          have d1 := e0f he0
          have d2 := eq_true hs0
          simp (config := { dsimp := false, maxSteps := 10000000 }) (disch := omega) only [go_sem, reduceIte, Nat.reduceEqDiff, reduceCtorEq, Nat.reduceAdd, Nat.reduceMul, Int.reduceToNat, Int.reduceLE, Int.reduceLT, Int.reduceEq, Int.reduceNe, Nat.reduceLeDiff, Int.reducePow, Nat.reducePow, Nat.reduceLT, Nat.reduceSub, Nat.reduceMod, Nat.reduceDiv, slot_neg, slot_pos, T.eb_32, T.es_9, T.ez_32, T.gf_26, T.ib_3, T.ib_5, T.ib_9, T.ii_3, T.ii_32, T.ii_5, T.ii_9, T.ip_3, T.ip_5, T.ip_9, T.s8_3, T.s8_32, T.s8_5, T.s8_9, T.sl_3, T.sl_32, T.sl_5, T.sl_9, T.st_3, T.st_32, T.st_5, T.st_9, T.un_3, T.un_32, T.un_5, T.un_9, q0, q1, q7, q8, q9, c1, c1', hnI, wn, d0, d1, d2, wa1, mk_str, een he0, eI]
          rw [hg]; exact ⟨rfl, hU⟩
        · rw [if_neg hs0, if_pos he0] at hg
          have d1 := e0t he0
          have d2 := eq_false hs0
          simp (config := { dsimp := false, maxSteps := 10000000 }) (disch := omega) only [go_sem, reduceIte, Nat.reduceEqDiff, reduceCtorEq, Nat.reduceAdd, Nat.reduceMul, Int.reduceToNat, Int.reduceLE, Int.reduceLT, Int.reduceEq, Int.reduceNe, Nat.reduceLeDiff, Int.reducePow, Nat.reducePow, Nat.reduceLT, Nat.reduceSub, Nat.reduceMod, Nat.reduceDiv, slot_neg, slot_pos, T.eb_32, T.es_9, T.ez_32, T.gf_26, T.ib_3, T.ib_5, T.ib_9, T.ii_3, T.ii_32, T.ii_5, T.ii_9, T.ip_3, T.ip_5, T.ip_9, T.s8_3, T.s8_32, T.s8_5, T.s8_9, T.sl_3, T.sl_32, T.sl_5, T.sl_9, T.st_3, T.st_32, T.st_5, T.st_9, T.un_3, T.un_32, T.un_5, T.un_9, q0, q1, q7, q8, q9, c1, c1', hnI, wn, d0, d1, d2, wa1, mk_str]
          rw [hg]; exact ⟨rfl, hU⟩
        · rw [if_neg hs0, if_neg he0] at hg
          have d1 := e0f he0
          have d2 := eq_false hs0
          simp (config := { dsimp := false, maxSteps := 10000000 }) (disch := omega) only [go_sem, reduceIte, Nat.reduceEqDiff, reduceCtorEq, Nat.reduceAdd, Nat.reduceMul, Int.reduceToNat, Int.reduceLE, Int.reduceLT, Int.reduceEq, Int.reduceNe, Nat.reduceLeDiff, Int.reducePow, Nat.reducePow, Nat.reduceLT, Nat.reduceSub, Nat.reduceMod, Nat.reduceDiv, slot_neg, slot_pos, T.eb_32, T.es_9, T.ez_32, T.gf_26, T.ib_3, T.ib_5, T.ib_9, T.ii_3, T.ii_32, T.ii_5, T.ii_9, T.ip_3, T.ip_5, T.ip_9, T.s8_3, T.s8_32, T.s8_5, T.s8_9, T.sl_3, T.sl_32, T.sl_5, T.sl_9, T.st_3, T.st_32, T.st_5, T.st_9, T.un_3, T.un_32, T.un_5, T.un_9, q0, q1, q7, q8, q9, c1, c1', hnI, wn, d0, d1, d2, wa1, mk_str, een he0, eI]
          rw [hg]; exact ⟨rfl, hU⟩
      rw [if_neg hn0] at hg
      have d0 : ((n : Int) = 0) = False := eq_false (by omega)
      by_cases h192 : 192 ≤ n
      · rw [if_pos h192] at hg
        have d1 : ((192 : Int) ≤ (n : Int)) = True := eq_true (by omega)
        by_cases hend : a + 1 = b.length
        · have d2 : ((b.length : Int) ≤ ((a + 1 : Nat) : Int)) = True := eq_true (by omega)
          rw [if_pos hend] at hg
          simp (config := { dsimp := false, maxSteps := 10000000 }) (disch := omega) only [go_sem, reduceIte, Nat.reduceEqDiff, reduceCtorEq, Nat.reduceAdd, Nat.reduceMul, Int.reduceToNat, Int.reduceLE, Int.reduceLT, Int.reduceEq, Int.reduceNe, Nat.reduceLeDiff, Int.reducePow, Nat.reducePow, Nat.reduceLT, Nat.reduceSub, Nat.reduceMod, Nat.reduceDiv, slot_neg, slot_pos, T.eb_32, T.es_9, T.ez_32, T.gf_26, T.ib_3, T.ib_5, T.ib_9, T.ii_3, T.ii_32, T.ii_5, T.ii_9, T.ip_3, T.ip_5, T.ip_9, T.s8_3, T.s8_32, T.s8_5, T.s8_9, T.sl_3, T.sl_32, T.sl_5, T.sl_9, T.st_3, T.st_32, T.st_5, T.st_9, T.un_3, T.un_32, T.un_5, T.un_9, q0, q1, q7, q8, q9, c1, c1', hnI, wn, d0, d1, d2, wa1, mk_str]
          rw [hg]; exact ⟨rfl, hU⟩
        have d2 : ((b.length : Int) ≤ ((a + 1 : Nat) : Int)) = False := eq_false (by omega)
        rw [if_neg hend] at hg
        have hc255 : (b.getD (a + 1) 0).toNat < 256 := (b.getD (a + 1) 0).toNat_lt
        obtain ⟨c, hcc⟩ : ∃ c, (b.getD (a + 1) 0).toNat = c := ⟨_, rfl⟩
        rw [hcc] at hg hc255
        have wc : IntKind.i64.wrap (c : Int) = c := i64wrap (by omega) (by omega)
        have wto := far_doc h192 hn255 hc255
        obtain ⟨far, hto⟩ : ∃ far, (n - 192) * 256 + c = far := ⟨_, rfl⟩
        rw [hto] at hg wto
        by_cases hbt : before ≤ far
        · have d3 : ((before : Int) ≤ (far : Int)) = True := eq_true (by omega)
          rw [if_pos hbt] at hg
          by_cases he0 : e = 0
          · have d4 := e0t he0
            simp (config := { dsimp := false, maxSteps := 10000000 }) (disch := omega) only [go_sem, reduceIte, Nat.reduceEqDiff, reduceCtorEq, Nat.reduceAdd, Nat.reduceMul, Int.reduceToNat, Int.reduceLE, Int.reduceLT, Int.reduceEq, Int.reduceNe, Nat.reduceLeDiff, Int.reducePow, Nat.reducePow, Nat.reduceLT, Nat.reduceSub, Nat.reduceMod, Nat.reduceDiv, slot_neg, slot_pos, T.eb_32, T.es_9, T.ez_32, T.gf_26, T.ib_3, T.ib_5, T.ib_9, T.ii_3, T.ii_32, T.ii_5, T.ii_9, T.ip_3, T.ip_5, T.ip_9, T.s8_3, T.s8_32, T.s8_5, T.s8_9, T.sl_3, T.sl_32, T.sl_5, T.sl_9, T.st_3, T.st_32, T.st_5, T.st_9, T.un_3, T.un_32, T.un_5, T.un_9, q0, q1, q7, q8, q9, c1, c1', hnI, wn, d0, d1, d2, wa1, wa2, hcc, wc, wto, d3, d4, mk_str]
            rw [hg]; exact ⟨by omega, rfl, hU⟩
          · have d4 := e0f he0
            simp (config := { dsimp := false, maxSteps := 10000000 }) (disch := omega) only [go_sem, reduceIte, Nat.reduceEqDiff, reduceCtorEq, Nat.reduceAdd, Nat.reduceMul, Int.reduceToNat, Int.reduceLE, Int.reduceLT, Int.reduceEq, Int.reduceNe, Nat.reduceLeDiff, Int.reducePow, Nat.reducePow, Nat.reduceLT, Nat.reduceSub, Nat.reduceMod, Nat.reduceDiv, slot_neg, slot_pos, T.eb_32, T.es_9, T.ez_32, T.gf_26, T.ib_3, T.ib_5, T.ib_9, T.ii_3, T.ii_32, T.ii_5, T.ii_9, T.ip_3, T.ip_5, T.ip_9, T.s8_3, T.s8_32, T.s8_5, T.s8_9, T.sl_3, T.sl_32, T.sl_5, T.sl_9, T.st_3, T.st_32, T.st_5, T.st_9, T.un_3, T.un_32, T.un_5, T.un_9, q0, q1, q7, q8, q9, c1, c1', hnI, wn, d0, d1, d2, wa1, wa2, hcc, wc, wto, d3, d4, mk_str]
            rw [hg]; exact ⟨by omega, rfl, hU⟩
        · have d3 : ((before : Int) ≤ (far : Int)) = False := eq_false (by omega)
          rw [if_neg hbt] at hg
          by_cases he0 : e = 0
          · have d4 := e0t he0
            rw [if_pos he0] at hg
            simp (config := { dsimp := false, maxSteps := 10000000 }) (disch := omega) only [go_sem, reduceIte, Nat.reduceEqDiff, reduceCtorEq, Nat.reduceAdd, Nat.reduceMul, Int.reduceToNat, Int.reduceLE, Int.reduceLT, Int.reduceEq, Int.reduceNe, Nat.reduceLeDiff, Int.reducePow, Nat.reducePow, Nat.reduceLT, Nat.reduceSub, Nat.reduceMod, Nat.reduceDiv, slot_neg, slot_pos, T.eb_32, T.es_9, T.ez_32, T.gf_26, T.ib_3, T.ib_5, T.ib_9, T.ii_3, T.ii_32, T.ii_5, T.ii_9, T.ip_3, T.ip_5, T.ip_9, T.s8_3, T.s8_32, T.s8_5, T.s8_9, T.sl_3, T.sl_32, T.sl_5, T.sl_9, T.st_3, T.st_32, T.st_5, T.st_9, T.un_3, T.un_32, T.un_5, T.un_9, q0, q1, q7, q8, q9, c1, c1', hnI, wn, d0, d1, d2, wa1, wa2, hcc, wc, wto, d3, d4, mk_str]
            exact ⟨by omega, ⟨s, a + 2, far, far, rfl, rfl, by unfold endI; rw [if_neg (by omega)], rfl, hs, by omega, by omega, hU, hg⟩, by omega⟩
          · have d4 := e0f he0
            rw [if_neg he0] at hg
            simp (config := { dsimp := false, maxSteps := 10000000 }) (disch := omega) only [go_sem, reduceIte, Nat.reduceEqDiff, reduceCtorEq, Nat.reduceAdd, Nat.reduceMul, Int.reduceToNat, Int.reduceLE, Int.reduceLT, Int.reduceEq, Int.reduceNe, Nat.reduceLeDiff, Int.reducePow, Nat.reducePow, Nat.reduceLT, Nat.reduceSub, Nat.reduceMod, Nat.reduceDiv, slot_neg, slot_pos, T.eb_32, T.es_9, T.ez_32, T.gf_26, T.ib_3, T.ib_5, T.ib_9, T.ii_3, T.ii_32, T.ii_5, T.ii_9, T.ip_3, T.ip_5, T.ip_9, T.s8_3, T.s8_32, T.s8_5, T.s8_9, T.sl_3, T.sl_32, T.sl_5, T.sl_9, T.st_3, T.st_32, T.st_5, T.st_9, T.un_3, T.un_32, T.un_5, T.un_9, q0, q1, q7, q8, q9, c1, c1', hnI, wn, d0, d1, d2, wa1, wa2, hcc, wc, wto, d3, d4, mk_str]
            exact ⟨by omega, ⟨s, e, far, far, rfl, rfl, rfl, rfl, hs, by omega, by omega, hU, hg⟩, by omega⟩
      rw [if_neg h192] at hg
      have d1 : ((192 : Int) ≤ (n : Int)) = False := eq_false (by omega)
      by_cases h63 : 63 < n
      · have d2 : ((63 : Int) < (n : Int)) = True := eq_true (by omega)
        rw [if_pos h63] at hg
        simp (config := { dsimp := false, maxSteps := 10000000 }) (disch := omega) only [go_sem, reduceIte, Nat.reduceEqDiff, reduceCtorEq, Nat.reduceAdd, Nat.reduceMul, Int.reduceToNat, Int.reduceLE, Int.reduceLT, Int.reduceEq, Int.reduceNe, Nat.reduceLeDiff, Int.reducePow, Nat.reducePow, Nat.reduceLT, Nat.reduceSub, Nat.reduceMod, Nat.reduceDiv, slot_neg, slot_pos, T.eb_32, T.es_9, T.ez_32, T.gf_26, T.ib_3, T.ib_5, T.ib_9, T.ii_3, T.ii_32, T.ii_5, T.ii_9, T.ip_3, T.ip_5, T.ip_9, T.s8_3, T.s8_32, T.s8_5, T.s8_9, T.sl_3, T.sl_32, T.sl_5, T.sl_9, T.st_3, T.st_32, T.st_5, T.st_9, T.un_3, T.un_32, T.un_5, T.un_9, q0, q1, q7, q8, q9, c1, c1', hnI, wn, wa1, d0, d1, d2, mk_str]
        rw [hg]; exact ⟨rfl, hU⟩
      have d2 : ((63 : Int) < (n : Int)) = False := eq_false (by omega)
      rw [if_neg h63] at hg
      simp (config := { dsimp := false, maxSteps := 10000000 }) (disch := omega) only [go_sem, reduceIte, Nat.reduceEqDiff, reduceCtorEq, Nat.reduceAdd, Nat.reduceMul, Int.reduceToNat, Int.reduceLE, Int.reduceLT, Int.reduceEq, Int.reduceNe, Nat.reduceLeDiff, Int.reducePow, Nat.reducePow, Nat.reduceLT, Nat.reduceSub, Nat.reduceMod, Nat.reduceDiv, slot_neg, slot_pos, T.eb_32, T.es_9, T.ez_32, T.gf_26, T.ib_3, T.ib_5, T.ib_9, T.ii_3, T.ii_32, T.ii_5, T.ii_9, T.ip_3, T.ip_5, T.ip_9, T.s8_3, T.s8_32, T.s8_5, T.s8_9, T.sl_3, T.sl_32, T.sl_5, T.sl_9, T.st_3, T.st_32, T.st_5, T.st_9, T.un_3, T.un_32, T.un_5, T.un_9, q0, q1, q7, q8, q9, c1, c1', hnI, wn, wa1, d0, d1, d2, mk_str]
      have hnU : Upd h H [] := hU
      have hpl := partS_len (b.drop (a + 1)) n
      refine loop_intro [] hm (fun r2 H2 => ∃ (k : Nat) (o : List UInt8), k ≤ n ∧ o.length = k ∧ r2 0 = .string (str b) ∧ r2 1 = .int .i64 (a : Int) ∧ r2 7 = .string (str s) ∧ r2 8 = .int .i64 (endI e) ∧ r2 9 = .int .i64 (before : Int) ∧ r2 10 = .int .i64 (n : Int) ∧ r2 12 = .string (str o) ∧ r2 13 = .int .i64 ((k + 1 : Nat) : Int) ∧ Upd h H2 [] ∧ partS (b.drop (a + 1)) n = preP o (partS (b.drop (a + 1 + k)) (n - k))) (fun r _ => match r 13 with | .int _ i => n + 1 - i.toNat | _ => 0) ?_ ?_
      · exact ⟨0, [], by omega, rfl, by simp [upd, q0], by simp [upd, q1], by simp [upd, q7], by simp [upd, q8], by simp [upd, q9], by simp [upd], by simp [upd], by simp [upd], hU, (preP_nil _ _).symm⟩
      · rintro r2 H2 ⟨k, o, hk, hol, p0, p1, p7, p8, p9, p10, p12, p13, hU2, hp⟩
        have wk : IntKind.i64.wrap (((k + 1 : Nat) : Int) + 1) = ((k + 1 + 1 : Nat) : Int) := by rw [i64wrap] <;> omega
        have wak : IntKind.i64.wrap ((a : Int) + ((k + 1 : Nat) : Int)) = ((a + 1 + k : Nat) : Int) := by rw [i64wrap] <;> omega
        by_cases hkn : k < n
        · have e1 : (((k + 1 : Nat) : Int) ≤ (n : Int)) = True := eq_true (by omega)
          obtain ⟨m, hm0⟩ : ∃ m, n - k = m + 1 := ⟨n - k - 1, by omega⟩
          rw [hm0] at hp
          by_cases hib : a + 1 + k < b.length
          · have e2 : ((b.length : Int) ≤ ((a + 1 + k : Nat) : Int)) = False := eq_false (by omega)
            have e3 : (((a + 1 + k : Nat) : Int) < (b.length : Int)) = True := eq_true (by omega)
            rw [drop_more hib] at hp
            obtain ⟨c, hc⟩ : ∃ c, b.getD (a + 1 + k) 0 = c := ⟨_, rfl⟩
            rw [hc] at hp
            have hcl := c.toNat_lt
            have hfit : m = n - (k + 1) := by omega
            have dl : (o.length ≤ 9223372036854775806) = True := eq_true (by omega)
            have fin : letB (lowc c) = true → partS (b.drop (a + 1)) n = preP (o ++ [lowc c]) (partS (b.drop (a + 1 + (k + 1))) (n - (k + 1))) := fun hlb => by rw [hp, preP_step hlb, hfit]; rfl
            have bad : ¬ letB (lowc c) = true → tt = ([], 0, 14) := fun hlb => by
              rw [partS, if_neg hlb] at hp
              rw [hp] at hg
              rw [hg]; rfl
            by_cases hup : 65 ≤ c.toNat ∧ c.toNat ≤ 90
            · have hlow : lowc c = UInt8.ofNat (c.toNat + 32) := by unfold lowc; rw [if_pos hup]
              have f1 : ((65 : Int) ≤ (c.toNat : Int)) = True := eq_true (by omega)
              have f2 : ((c.toNat : Int) ≤ 90) = True := eq_true (by omega)
              have w8 : IntKind.u8.wrap ((c.toNat : Int) + 32) = ((lowc c).toNat : Int) := by rw [u8wrap (by omega) (by omega), hlow]; simp; omega
              simp (config := { dsimp := false, maxSteps := 10000000 }) (disch := omega) only [go_sem, reduceIte, Nat.reduceEqDiff, reduceCtorEq, Nat.reduceAdd, Nat.reduceMul, Int.reduceToNat, Int.reduceLE, Int.reduceLT, Int.reduceEq, Int.reduceNe, Nat.reduceLeDiff, Int.reducePow, Nat.reducePow, Nat.reduceLT, Nat.reduceSub, Nat.reduceMod, Nat.reduceDiv, slot_neg, slot_pos, T.eb_32, T.es_9, T.ez_32, T.gf_26, T.ib_3, T.ib_5, T.ib_9, T.ii_3, T.ii_32, T.ii_5, T.ii_9, T.ip_3, T.ip_5, T.ip_9, T.s8_3, T.s8_32, T.s8_5, T.s8_9, T.sl_3, T.sl_32, T.sl_5, T.sl_9, T.st_3, T.st_32, T.st_5, T.st_9, T.un_3, T.un_32, T.un_5, T.un_9, p0, p1, p7, p8, p9, p10, p12, p13, wk, wak, e1, e2, e3, hc, mk_str, f1, f2, w8]
              refine CallsH.pure _ rfl (letter_ph _ (lowc c)) ?_
              by_cases hlb : letB (lowc c) = true
              · simp (config := { dsimp := false, maxSteps := 10000000 }) (disch := omega) only [go_sem, reduceIte, Nat.reduceEqDiff, reduceCtorEq, Nat.reduceAdd, Nat.reduceMul, Int.reduceToNat, Int.reduceLE, Int.reduceLT, Int.reduceEq, Int.reduceNe, Nat.reduceLeDiff, Int.reducePow, Nat.reducePow, Nat.reduceLT, Nat.reduceSub, Nat.reduceMod, Nat.reduceDiv, slot_neg, slot_pos, T.eb_32, T.es_9, T.ez_32, T.gf_26, T.ib_3, T.ib_5, T.ib_9, T.ii_3, T.ii_32, T.ii_5, T.ii_9, T.ip_3, T.ip_5, T.ip_9, T.s8_3, T.s8_32, T.s8_5, T.s8_9, T.sl_3, T.sl_32, T.sl_5, T.sl_9, T.st_3, T.st_32, T.st_5, T.st_9, T.un_3, T.un_32, T.un_5, T.un_9, p0, p1, p7, p8, p9, p10, p12, p13, wk, hlb, one_val, app_str, dl]
                exact ⟨⟨k + 1, o ++ [lowc c], hkn, by rw [List.length_append, hol]; rfl, rfl, rfl, hU2.trans (Upd.alloc _ _ []) (by simp), fin hlb⟩, by omega⟩
              · simp (config := { dsimp := false, maxSteps := 10000000 }) (disch := omega) only [go_sem, reduceIte, Nat.reduceEqDiff, reduceCtorEq, Nat.reduceAdd, Nat.reduceMul, Int.reduceToNat, Int.reduceLE, Int.reduceLT, Int.reduceEq, Int.reduceNe, Nat.reduceLeDiff, Int.reducePow, Nat.reducePow, Nat.reduceLT, Nat.reduceSub, Nat.reduceMod, Nat.reduceDiv, slot_neg, slot_pos, T.eb_32, T.es_9, T.ez_32, T.gf_26, T.ib_3, T.ib_5, T.ib_9, T.ii_3, T.ii_32, T.ii_5, T.ii_9, T.ip_3, T.ip_5, T.ip_9, T.s8_3, T.s8_32, T.s8_5, T.s8_9, T.sl_3, T.sl_32, T.sl_5, T.sl_9, T.st_3, T.st_32, T.st_5, T.st_9, T.un_3, T.un_32, T.un_5, T.un_9, p0, p1, p7, p8, p9, p10, p12, p13, wk, hlb, mk_str]
                rw [bad hlb]; exact ⟨rfl, hU2⟩
            · have hlow : lowc c = c := by unfold lowc; rw [if_neg hup]
              by_cases h65 : (65 : Int) ≤ (c.toNat : Int)
              · have f2 : ((c.toNat : Int) ≤ 90) = False := eq_false (by omega)
                have f1 := eq_true h65
                simp (config := { dsimp := false, maxSteps := 10000000 }) (disch := omega) only [go_sem, reduceIte, Nat.reduceEqDiff, reduceCtorEq, Nat.reduceAdd, Nat.reduceMul, Int.reduceToNat, Int.reduceLE, Int.reduceLT, Int.reduceEq, Int.reduceNe, Nat.reduceLeDiff, Int.reducePow, Nat.reducePow, Nat.reduceLT, Nat.reduceSub, Nat.reduceMod, Nat.reduceDiv, slot_neg, slot_pos, T.eb_32, T.es_9, T.ez_32, T.gf_26, T.ib_3, T.ib_5, T.ib_9, T.ii_3, T.ii_32, T.ii_5, T.ii_9, T.ip_3, T.ip_5, T.ip_9, T.s8_3, T.s8_32, T.s8_5, T.s8_9, T.sl_3, T.sl_32, T.sl_5, T.sl_9, T.st_3, T.st_32, T.st_5, T.st_9, T.un_3, T.un_32, T.un_5, T.un_9, p0, p1, p7, p8, p9, p10, p12, p13, wk, wak, e1, e2, e3, hc, mk_str, f1, f2]
                rw [← hlow]
                refine CallsH.pure _ rfl (letter_ph _ (lowc c)) ?_
                by_cases hlb : letB (lowc c) = true
                · simp (config := { dsimp := false, maxSteps := 10000000 }) (disch := omega) only [go_sem, reduceIte, Nat.reduceEqDiff, reduceCtorEq, Nat.reduceAdd, Nat.reduceMul, Int.reduceToNat, Int.reduceLE, Int.reduceLT, Int.reduceEq, Int.reduceNe, Nat.reduceLeDiff, Int.reducePow, Nat.reducePow, Nat.reduceLT, Nat.reduceSub, Nat.reduceMod, Nat.reduceDiv, slot_neg, slot_pos, T.eb_32, T.es_9, T.ez_32, T.gf_26, T.ib_3, T.ib_5, T.ib_9, T.ii_3, T.ii_32, T.ii_5, T.ii_9, T.ip_3, T.ip_5, T.ip_9, T.s8_3, T.s8_32, T.s8_5, T.s8_9, T.sl_3, T.sl_32, T.sl_5, T.sl_9, T.st_3, T.st_32, T.st_5, T.st_9, T.un_3, T.un_32, T.un_5, T.un_9, p0, p1, p7, p8, p9, p10, p12, p13, wk, hlb, one_val, app_str, dl]
                  exact ⟨⟨k + 1, o ++ [lowc c], hkn, by rw [List.length_append, hol]; rfl, rfl, rfl, hU2.trans (Upd.alloc _ _ []) (by simp), fin hlb⟩, by omega⟩
                · simp (config := { dsimp := false, maxSteps := 10000000 }) (disch := omega) only [go_sem, reduceIte, Nat.reduceEqDiff, reduceCtorEq, Nat.reduceAdd, Nat.reduceMul, Int.reduceToNat, Int.reduceLE, Int.reduceLT, Int.reduceEq, Int.reduceNe, Nat.reduceLeDiff, Int.reducePow, Nat.reducePow, Nat.reduceLT, Nat.reduceSub, Nat.reduceMod, Nat.reduceDiv, slot_neg, slot_pos, T.eb_32, T.es_9, T.ez_32, T.gf_26, T.ib_3, T.ib_5, T.ib_9, T.ii_3, T.ii_32, T.ii_5, T.ii_9, T.ip_3, T.ip_5, T.ip_9, T.s8_3, T.s8_32, T.s8_5, T.s8_9, T.sl_3, T.sl_32, T.sl_5, T.sl_9, T.st_3, T.st_32, T.st_5, T.st_9, T.un_3, T.un_32, T.un_5, T.un_9, p0, p1, p7, p8, p9, p10, p12, p13, wk, hlb, mk_str]
                  rw [bad hlb]; exact ⟨rfl, hU2⟩
              · have f1 := eq_false h65
                simp (config := { dsimp := false, maxSteps := 10000000 }) (disch := omega) only [go_sem, reduceIte, Nat.reduceEqDiff, reduceCtorEq, Nat.reduceAdd, Nat.reduceMul, Int.reduceToNat, Int.reduceLE, Int.reduceLT, Int.reduceEq, Int.reduceNe, Nat.reduceLeDiff, Int.reducePow, Nat.reducePow, Nat.reduceLT, Nat.reduceSub, Nat.reduceMod, Nat.reduceDiv, slot_neg, slot_pos, T.eb_32, T.es_9, T.ez_32, T.gf_26, T.ib_3, T.ib_5, T.ib_9, T.ii_3, T.ii_32, T.ii_5, T.ii_9, T.ip_3, T.ip_5, T.ip_9, T.s8_3, T.s8_32, T.s8_5, T.s8_9, T.sl_3, T.sl_32, T.sl_5, T.sl_9, T.st_3, T.st_32, T.st_5, T.st_9, T.un_3, T.un_32, T.un_5, T.un_9, p0, p1, p7, p8, p9, p10, p12, p13, wk, wak, e1, e2, e3, hc, mk_str, f1]
                rw [← hlow]
                refine CallsH.pure _ rfl (letter_ph _ (lowc c)) ?_
                by_cases hlb : letB (lowc c) = true
                · simp (config := { dsimp := false, maxSteps := 10000000 }) (disch := omega) only [go_sem, reduceIte, Nat.reduceEqDiff, reduceCtorEq, Nat.reduceAdd, Nat.reduceMul, Int.reduceToNat, Int.reduceLE, Int.reduceLT, Int.reduceEq, Int.reduceNe, Nat.reduceLeDiff, Int.reducePow, Nat.reducePow, Nat.reduceLT, Nat.reduceSub, Nat.reduceMod, Nat.reduceDiv, slot_neg, slot_pos, T.eb_32, T.es_9, T.ez_32, T.gf_26, T.ib_3, T.ib_5, T.ib_9, T.ii_3, T.ii_32, T.ii_5, T.ii_9, T.ip_3, T.ip_5, T.ip_9, T.s8_3, T.s8_32, T.s8_5, T.s8_9, T.sl_3, T.sl_32, T.sl_5, T.sl_9, T.st_3, T.st_32, T.st_5, T.st_9, T.un_3, T.un_32, T.un_5, T.un_9, p0, p1, p7, p8, p9, p10, p12, p13, wk, hlb, one_val, app_str, dl]
                  exact ⟨⟨k + 1, o ++ [lowc c], hkn, by rw [List.length_append, hol]; rfl, rfl, rfl, hU2.trans (Upd.alloc _ _ []) (by simp), fin hlb⟩, by omega⟩
                · simp (config := { dsimp := false, maxSteps := 10000000 }) (disch := omega) only [go_sem, reduceIte, Nat.reduceEqDiff, reduceCtorEq, Nat.reduceAdd, Nat.reduceMul, Int.reduceToNat, Int.reduceLE, Int.reduceLT, Int.reduceEq, Int.reduceNe, Nat.reduceLeDiff, Int.reducePow, Nat.reducePow, Nat.reduceLT, Nat.reduceSub, Nat.reduceMod, Nat.reduceDiv, slot_neg, slot_pos, T.eb_32, T.es_9, T.ez_32, T.gf_26, T.ib_3, T.ib_5, T.ib_9, T.ii_3, T.ii_32, T.ii_5, T.ii_9, T.ip_3, T.ip_5, T.ip_9, T.s8_3, T.s8_32, T.s8_5, T.s8_9, T.sl_3, T.sl_32, T.sl_5, T.sl_9, T.st_3, T.st_32, T.st_5, T.st_9, T.un_3, T.un_32, T.un_5, T.un_9, p0, p1, p7, p8, p9, p10, p12, p13, wk, hlb, mk_str]
                  rw [bad hlb]; exact ⟨rfl, hU2⟩
          · have e2 : ((b.length : Int) ≤ ((a + 1 + k : Nat) : Int)) = True := eq_true (by omega)
            rw [show List.drop (a + 1 + k) b = [] from List.drop_eq_nil_of_le (by omega), partS] at hp
            simp (config := { dsimp := false, maxSteps := 10000000 }) (disch := omega) only [go_sem, reduceIte, Nat.reduceEqDiff, reduceCtorEq, Nat.reduceAdd, Nat.reduceMul, Int.reduceToNat, Int.reduceLE, Int.reduceLT, Int.reduceEq, Int.reduceNe, Nat.reduceLeDiff, Int.reducePow, Nat.reducePow, Nat.reduceLT, Nat.reduceSub, Nat.reduceMod, Nat.reduceDiv, slot_neg, slot_pos, T.eb_32, T.es_9, T.ez_32, T.gf_26, T.ib_3, T.ib_5, T.ib_9, T.ii_3, T.ii_32, T.ii_5, T.ii_9, T.ip_3, T.ip_5, T.ip_9, T.s8_3, T.s8_32, T.s8_5, T.s8_9, T.sl_3, T.sl_32, T.sl_5, T.sl_9, T.st_3, T.st_32, T.st_5, T.st_9, T.un_3, T.un_32, T.un_5, T.un_9, p0, p1, p7, p8, p9, p10, p12, p13, wk, wak, e1, e2, mk_str]
            rw [hp] at hg
            rw [hg]; exact ⟨rfl, hU2⟩
        · obtain rfl : k = n := by omega
          have e1 : (((k + 1 : Nat) : Int) ≤ (k : Int)) = False := eq_false (by omega)
          rw [Nat.sub_self, show partS (b.drop (a + 1 + k)) 0 = ([], 0) from by unfold partS; rfl] at hp
          have hp1 : partS (b.drop (a + 1)) k = (o, 0) := by rw [hp]; unfold preP; simp
          rw [hp1] at hg hpl
          rw [if_neg (by simp)] at hg
          have happ : (s ++ o ++ [46]).length = s.length + o.length + 1 := by simp; omega
          have dA : (s.length + o.length ≤ 9223372036854775807) = True := eq_true (by omega)
          have dB : (s.length + o.length ≤ 9223372036854775806) = True := eq_true (by omega)
          by_cases h254 : 254 < (s ++ o ++ [46]).length
          · rw [if_pos h254] at hg
            have d5 : ((254 : Int) < ((s.length + o.length + 1 : Nat) : Int)) = True := eq_true (by omega)
            simp (config := { dsimp := false, maxSteps := 10000000 }) (disch := omega) only [go_sem, reduceIte, Nat.reduceEqDiff, reduceCtorEq, Nat.reduceAdd, Nat.reduceMul, Int.reduceToNat, Int.reduceLE, Int.reduceLT, Int.reduceEq, Int.reduceNe, Nat.reduceLeDiff, Int.reducePow, Nat.reducePow, Nat.reduceLT, Nat.reduceSub, Nat.reduceMod, Nat.reduceDiv, slot_neg, slot_pos, T.eb_32, T.es_9, T.ez_32, T.gf_26, T.ib_3, T.ib_5, T.ib_9, T.ii_3, T.ii_32, T.ii_5, T.ii_9, T.ip_3, T.ip_5, T.ip_9, T.s8_3, T.s8_32, T.s8_5, T.s8_9, T.sl_3, T.sl_32, T.sl_5, T.sl_9, T.st_3, T.st_32, T.st_5, T.st_9, T.un_3, T.un_32, T.un_5, T.un_9, p0, p1, p7, p8, p9, p10, p12, p13, wk, e1, app_str, mk_str, dA, dB, d5, List.length_append]
            rw [hg]; exact ⟨rfl, hU2⟩
          · rw [if_neg h254] at hg
            have d5 : ((254 : Int) < ((s.length + o.length + 1 : Nat) : Int)) = False := eq_false (by omega)
            simp (config := { dsimp := false, maxSteps := 10000000 }) (disch := omega) only [go_sem, reduceIte, Nat.reduceEqDiff, reduceCtorEq, Nat.reduceAdd, Nat.reduceMul, Int.reduceToNat, Int.reduceLE, Int.reduceLT, Int.reduceEq, Int.reduceNe, Nat.reduceLeDiff, Int.reducePow, Nat.reducePow, Nat.reduceLT, Nat.reduceSub, Nat.reduceMod, Nat.reduceDiv, slot_neg, slot_pos, T.eb_32, T.es_9, T.ez_32, T.gf_26, T.ib_3, T.ib_5, T.ib_9, T.ii_3, T.ii_32, T.ii_5, T.ii_9, T.ip_3, T.ip_5, T.ip_9, T.s8_3, T.s8_32, T.s8_5, T.s8_9, T.sl_3, T.sl_32, T.sl_5, T.sl_9, T.st_3, T.st_32, T.st_5, T.st_9, T.un_3, T.un_32, T.un_5, T.un_9, p0, p1, p7, p8, p9, p10, p12, p13, wk, e1, app_str, mk_str, dA, dB, d5, wa1, wa4, List.length_append]
            have hmul : (255 - (s.length + o.length + 1)) * (b.length + 1) + (b.length + 1) ≤ (255 - s.length) * (b.length + 1) := by
              rw [← Nat.succ_mul]; exact Nat.mul_le_mul_right _ (by omega)
            refine ⟨⟨s ++ o ++ [46], e, a, a + 1 + k, rfl, rfl, rfl, rfl, by omega, by omega, by omega, hU2, hg⟩, ?_⟩
            rw [q7, q9]
            show _ < (255 - (str s).size) * (b.length + 1) + ((before : Int)).toNat
            rw [size_str, Int.toNat_natCast]
            omega
    · have c1 : ((b.length : Int) ≤ (a : Int)) = True := eq_true (by omega)
      rw [if_neg hab] at hg
      simp (config := { dsimp := false, maxSteps := 10000000 }) (disch := omega) only [go_sem, reduceIte, Nat.reduceEqDiff, reduceCtorEq, Nat.reduceAdd, Nat.reduceMul, Int.reduceToNat, Int.reduceLE, Int.reduceLT, Int.reduceEq, Int.reduceNe, Nat.reduceLeDiff, Int.reducePow, Nat.reducePow, Nat.reduceLT, Nat.reduceSub, Nat.reduceMod, Nat.reduceDiv, slot_neg, slot_pos, T.eb_32, T.es_9, T.ez_32, T.gf_26, T.ib_3, T.ib_5, T.ib_9, T.ii_3, T.ii_32, T.ii_5, T.ii_9, T.ip_3, T.ip_5, T.ip_9, T.s8_3, T.s8_32, T.s8_5, T.s8_9, T.sl_3, T.sl_32, T.sl_5, T.sl_9, T.st_3, T.st_32, T.st_5, T.st_9, T.un_3, T.un_32, T.un_5, T.un_9, q0, q1, q7, q8, q9, c1, mk_str]
      rw [hg]; exact ⟨rfl, hU⟩
end Ph
