import Derived.Test.YthghohhaagkbnaaC12
set_option maxRecDepth 100000
set_option maxHeartbeats 4000000
set_option linter.unusedSimpArgs false
set_option linter.unusedVariables false
namespace Ph
open Go Go.Proofs
attribute [local irreducible] Value.cells
attribute [local go_sem ↓] y_move y_assign y_pick y_nil y_bin y_un y_fa y_field y_ext y_ia y_ix y_slice y_build y_mf y_rg y_nx y_en y_mm y_lk y_mu y_del y_load y_len y_min y_max y_conv y_bs y_mk y_alloc y_box y_store y_clear y_app y_callf y_callt s_move s_assign s_pick s_nil s_bin s_un s_fa s_field s_ext s_ia s_ix s_slice s_conv s_build s_bs s_mf s_alloc s_box s_rg s_nx s_en s_mm s_lk s_mu s_del s_load s_store s_len s_clear s_min s_max s_app s_call q_call q_move q_assign q_pick q_nil q_bin q_un q_fa q_field q_ext q_ia q_ix q_slice q_conv q_build q_mf q_lk q_load q_len q_min q_max l_nil l_move l_assign l_pick l_nilc l_bin l_un l_fa l_field l_ext l_ia l_ix l_slice l_conv l_build l_mf l_lk l_load l_len l_min l_max l_call put_eq putN_eq o_nil o_plain o_gate v_nil v_plain v_gate vc_skip vc_region vc_seq vc_cond vc_block vc_loop vc_rf vc_exit vc_ret blk_normal blk_ret blk_exit on_normal on_ret on_exit vc_drawn draw_q s_mk l_bs l_mk l_rg l_nx l_en l_mm l_mu l_del l_alloc l_box l_store l_app l_clear pl_done pl_takeS pl_take pl_alt pl_stop one_plain one_gate
attribute [local go_sem] clear_nil clear_sl onAgg_a onTuple_t onFn_f onFn_y onFunc_f c_int c_nil c_sl c_str sl_sl sl_nil sl_str ix_str ix_agg n_nil n_sl n_str app_eq k_nil k_sl len_sl len_str len_mn len_m onMap_m onIter_i rg_n rg_m nx_p en_p lk_n lk_m up_m setM_n setM_s del_n del_m kt_s kt_i upd_some upd_none ev_tmp ev_const ev_func rd_some gdst_eq otmp_t otmp_c get_put get_alloc next_put next_alloc get_app next_app init_a resV1 resV2 onPtr_ptr onBool_b onInt_i onSlice_s onSome_s onCells_c lett_eq gate_tt gate_tf gate_ff gate_ft gate_dt gate_df also_eq bin un minmax io_none io_some bo_none bo_some partOf List.getElem?_cons_zero List.getElem?_cons_succ List.getElem?_toArray Option.map_some Option.map_none Option.bind_some ne_eq not_true_eq_false not_false_eq_true false_implies true_implies and_true true_and and_self Bool.false_eq_true Nat.zero_add Nat.add_zero List.size_toArray List.length_cons List.length_nil List.map_toArray List.map_cons List.map_nil Array.getD_eq_getD_getElem? Option.getD_some Bool.not_true Bool.not_false Bool.not_eq_true Option.isNone_some Option.isNone_none List.append_toArray List.append_nil List.nil_append List.cons_append decide_true decide_false in_nil in_cons Bool.and_false Bool.and_true Bool.or_false Bool.true_or Bool.false_or get_mask next_mask get_unmask next_unmask ac_move ac_assign ac_pick ac_nil ac_bin ac_un ac_fa ac_field ac_ext ac_ia ac_ix ac_slice ac_build ac_mf ac_call ac_len ac_lk ac_min ac_max accM_m accM_n accM_s accM_t ac_load ac_conv accP_p accS_s accS_n accS_i accS_t fixed_ro fixed_lock fixed_own get_ro next_ro lock_live' lock_cells List.mem_cons List.not_mem_nil or_false false_or or_true true_or and_false false_and IntKind.bits Int.natCast_zero Int.natCast_one size_str data_str list_str mk_str ext_str app_str bytes_str w_byte w_byteu Int.toNat_natCast Int.toNat_zero Int.toNat_one Nat.sub_zero ge_iff_le gt_iff_lt Nat.le_refl Int.le_refl List.drop_zero Int.ofNat_eq_natCast Int.natCast_nonneg Int.sub_zero oc_int oc_bool oc_str oc_ptr oc_sl oc_map oc_func List.set_cons_zero List.set_cons_succ Nat.mul_one List.all_cons List.all_nil Bool.and_self res_nil res_tmp res_cell tup_one tup_two tup_nil fill_nil repl_zero cells_agg List.append_eq List.toList_toArray Nat.zero_mul Nat.one_mul repl_one repl_two onSome_build fill_cons onSome_lit splice_eq cells_int cells_bool cells_str cells_ptr cells_sl cells_map cells_func loadK_n loadK_s load_k storeK_n storeK_s store_k all_arr List.take_zero List.take_succ_cons List.drop_succ_cons List.take_nil List.drop_nil lk_own lk_ro lk_lock lk_lk fixed_lk gate_nt gate_nf gate3_b gate3_u undef Bool.true_and Bool.false_and nx_l nx_r nx_lt put_put resV0
/-! The document's cache: Put. -/
theorem OwnRow.at_ {α : Type} {E : Enc α} {h : Heap} {q off n st : Nat} {D : List Nat} {l : List α} (hO : OwnRow E h (.slice (some ⟨q, off, none⟩) n st) D l) : D = [q] ∧ q < h.next ∧ n = l.length ∧ st = E.k ∧ ∃ vs, h.get q = .live (.cells vs .own) ∧ RowV E vs off l := by
  rcases hO with ⟨e, _⟩ | ⟨q2, off2, vs, rfl, h1, e, h2, h3⟩
  · cases e
  · cases e; exact ⟨rfl, h1, rfl, rfl, vs, h2, h3⟩
theorem RputE_ph (h : Heap) (v0 k v : Value) (keep at_ : Int) (hbad : keep < 0 ∨ farC < keep ∨ at_ < 0 ∨ farC < at_) :
    @CallsH Try.prog 35 #[v0, k, v, .int .i64 keep, .int .i64 at_] h ⟨fun u H => u = .int .i64 1 ∧ H = h⟩ := by
  unfold farC at hbad
  by_cases c1 : keep < 0
  · have c1' : (keep < 0) = True := eq_true c1
    (refine calls_of_vc [] hm Try.func35 rfl (ts := [10]) rfl (by kernel_rfl) (by simp) ?_; simp (config := { dsimp := false, maxSteps := 10000000 }) (disch := omega) only [go_sem, reduceIte, Nat.reduceEqDiff, reduceCtorEq, Nat.reduceAdd, Nat.reduceMul, Int.reduceToNat, Int.reduceLE, Int.reduceLT, Int.reduceEq, Int.reduceNe, Nat.reduceLeDiff, Int.reducePow, Nat.reducePow, Nat.reduceLT, Nat.reduceSub, Nat.reduceMod, Nat.reduceDiv, slot_neg, slot_pos, T.ag_3, T.ag_71, T.eb_71, T.es_71, T.ez_71, T.fo_77_0, T.fo_77_1, T.fo_77_2, T.fo_82_2, T.gf_65, T.gf_66, T.ib_3, T.ii_71, T.ip_3, T.pl_82, T.s8_71, T.sl_71, T.st_71, T.un_71, T.zo_82, init_a, c1'])
  · have c1' : (keep < 0) = False := eq_false c1
    by_cases c2 : 1099511627776 < keep
    · have c2' : (1099511627776 < keep) = True := eq_true c2
      (refine calls_of_vc [] hm Try.func35 rfl (ts := [10]) rfl (by kernel_rfl) (by simp) ?_; simp (config := { dsimp := false, maxSteps := 10000000 }) (disch := omega) only [go_sem, reduceIte, Nat.reduceEqDiff, reduceCtorEq, Nat.reduceAdd, Nat.reduceMul, Int.reduceToNat, Int.reduceLE, Int.reduceLT, Int.reduceEq, Int.reduceNe, Nat.reduceLeDiff, Int.reducePow, Nat.reducePow, Nat.reduceLT, Nat.reduceSub, Nat.reduceMod, Nat.reduceDiv, slot_neg, slot_pos, T.ag_3, T.ag_71, T.eb_71, T.es_71, T.ez_71, T.fo_77_0, T.fo_77_1, T.fo_77_2, T.fo_82_2, T.gf_65, T.gf_66, T.ib_3, T.ii_71, T.ip_3, T.pl_82, T.s8_71, T.sl_71, T.st_71, T.un_71, T.zo_82, init_a, c1', c2'])
    · have c2' : (1099511627776 < keep) = False := eq_false c2
      by_cases c3 : at_ < 0
      · have c3' : (at_ < 0) = True := eq_true c3
        (refine calls_of_vc [] hm Try.func35 rfl (ts := [10]) rfl (by kernel_rfl) (by simp) ?_; simp (config := { dsimp := false, maxSteps := 10000000 }) (disch := omega) only [go_sem, reduceIte, Nat.reduceEqDiff, reduceCtorEq, Nat.reduceAdd, Nat.reduceMul, Int.reduceToNat, Int.reduceLE, Int.reduceLT, Int.reduceEq, Int.reduceNe, Nat.reduceLeDiff, Int.reducePow, Nat.reducePow, Nat.reduceLT, Nat.reduceSub, Nat.reduceMod, Nat.reduceDiv, slot_neg, slot_pos, T.ag_3, T.ag_71, T.eb_71, T.es_71, T.ez_71, T.fo_77_0, T.fo_77_1, T.fo_77_2, T.fo_82_2, T.gf_65, T.gf_66, T.ib_3, T.ii_71, T.ip_3, T.pl_82, T.s8_71, T.sl_71, T.st_71, T.un_71, T.zo_82, init_a, c1', c2', c3'])
      · have c3' : (at_ < 0) = False := eq_false c3
        have c4' : (1099511627776 < at_) = True := eq_true (by omega)
        (refine calls_of_vc [] hm Try.func35 rfl (ts := [10]) rfl (by kernel_rfl) (by simp) ?_; simp (config := { dsimp := false, maxSteps := 10000000 }) (disch := omega) only [go_sem, reduceIte, Nat.reduceEqDiff, reduceCtorEq, Nat.reduceAdd, Nat.reduceMul, Int.reduceToNat, Int.reduceLE, Int.reduceLT, Int.reduceEq, Int.reduceNe, Nat.reduceLeDiff, Int.reducePow, Nat.reducePow, Nat.reduceLT, Nat.reduceSub, Nat.reduceMod, Nat.reduceDiv, slot_neg, slot_pos, T.ag_3, T.ag_71, T.eb_71, T.es_71, T.ez_71, T.fo_77_0, T.fo_77_1, T.fo_77_2, T.fo_82_2, T.gf_65, T.gf_66, T.ib_3, T.ii_71, T.ip_3, T.pl_82, T.s8_71, T.sl_71, T.st_71, T.un_71, T.zo_82, init_a, c1', c2', c3', c4'])
theorem Rput_ph (h : Heap) (p : Nat) (D : List Nat) (v : Value) (c : Ca) (k : List UInt8) (n keep at_ : Int) (b : Nat) (hC : RfR h p D v c) (hkd : strKeys c) (hO : CaOk c) (h1 : 0 ≤ keep) (h2 : keep ≤ farC) (h3 : 0 ≤ at_) (h4 : at_ ≤ farC) (one : (Value.string (str k)).oneCell' = true ∧ (Value.int .i64 n).oneCell' = true) :
    @CallsH Try.prog 35 #[.pointer (some ⟨p, 0, none⟩), .string (str k), .int .i64 n, .int .i64 keep, .int .i64 at_] h ⟨fun u H => u = .int .i64 0 ∧ ∃ D' v', RfR H p D' v' (putS c (.string (str k)) (.int .i64 n) keep at_ b one) ∧ (∀ d ∈ D', h.next ≤ d) ∧ Upd h H [p]⟩ := by
  have hpn := hC.lt
  unfold farC at h2 h4
  have c1 : (keep < 0) = False := eq_false (by omega)
  have c2 : (1099511627776 < keep) = False := eq_false (by omega)
  have c3 : (at_ < 0) = False := eq_false (by omega)
  have c4 : (1099511627776 < at_) = False := eq_false (by omega)
  have hOk2 := (hO.time at_).without (.string (str k))
  have hkd2 := (hkd.time at_).without (.string (str k))
  (refine calls_of_codeR (rs := [.tmp 10]) Try.func35 rfl rfl (by simp) ?_)
  (refine CodeH.seq' (CodeH.of_vc [] hm (by kernel_rfl) ?_); simp (config := { dsimp := false, maxSteps := 10000000 }) (disch := omega) only [go_sem, reduceIte, Nat.reduceEqDiff, reduceCtorEq, Nat.reduceAdd, Nat.reduceMul, Int.reduceToNat, Int.reduceLE, Int.reduceLT, Int.reduceEq, Int.reduceNe, Nat.reduceLeDiff, Int.reducePow, Nat.reducePow, Nat.reduceLT, Nat.reduceSub, Nat.reduceMod, Nat.reduceDiv, slot_neg, slot_pos, T.ag_3, T.ag_71, T.eb_71, T.es_71, T.ez_71, T.fo_77_0, T.fo_77_1, T.fo_77_2, T.fo_82_2, T.gf_65, T.gf_66, T.ib_3, T.ii_71, T.ip_3, T.pl_82, T.s8_71, T.sl_71, T.st_71, T.un_71, T.zo_82, init_a])
  (refine CodeH.seq' (CodeH.of_vc [] hm (by kernel_rfl) ?_); simp (config := { dsimp := false, maxSteps := 10000000 }) (disch := omega) only [go_sem, reduceIte, Nat.reduceEqDiff, reduceCtorEq, Nat.reduceAdd, Nat.reduceMul, Int.reduceToNat, Int.reduceLE, Int.reduceLT, Int.reduceEq, Int.reduceNe, Nat.reduceLeDiff, Int.reducePow, Nat.reducePow, Nat.reduceLT, Nat.reduceSub, Nat.reduceMod, Nat.reduceDiv, slot_neg, slot_pos, T.ag_3, T.ag_71, T.eb_71, T.es_71, T.ez_71, T.fo_77_0, T.fo_77_1, T.fo_77_2, T.fo_82_2, T.gf_65, T.gf_66, T.ib_3, T.ii_71, T.ip_3, T.pl_82, T.s8_71, T.sl_71, T.st_71, T.un_71, T.zo_82, init_a, c1, c2, c3, c4])
  refine CodeH.seq (fun r H => (∃ D' v', RfR H p D' v' (timeC c at_) ∧ (∀ d ∈ D', h.next ≤ d) ∧ Upd h H [p]) ∧ r 0 = .pointer (some ⟨p, 0, none⟩) ∧ r 1 = .string (str k) ∧ r 2 = .int .i64 n ∧ r 3 = .int .i64 keep) (CodeH.of_vc [] hm (by kernel_rfl) ?_) fun r H1 ⟨⟨D1, v1, hC1, hD1, hU1⟩, q0, q1, q2, q3⟩ => ?_
  · simp (config := { dsimp := false, maxSteps := 10000000 }) (disch := omega) only [go_sem, reduceIte, Nat.reduceEqDiff, reduceCtorEq, Nat.reduceAdd, Nat.reduceMul, Int.reduceToNat, Int.reduceLE, Int.reduceLT, Int.reduceEq, Int.reduceNe, Nat.reduceLeDiff, Int.reducePow, Nat.reducePow, Nat.reduceLT, Nat.reduceSub, Nat.reduceMod, Nat.reduceDiv, slot_neg, slot_pos, T.ag_3, T.ag_71, T.eb_71, T.es_71, T.ez_71, T.fo_77_0, T.fo_77_1, T.fo_77_2, T.fo_82_2, T.gf_65, T.gf_66, T.ib_3, T.ii_71, T.ip_3, T.pl_82, T.s8_71, T.sl_71, T.st_71, T.un_71, T.zo_82]
    refine (Rtime_ph h p D v c at_ hC).mono fun u H1 hh => ?_
    simp (config := { dsimp := false, maxSteps := 10000000 }) (disch := omega) only [go_sem, reduceIte, Nat.reduceEqDiff, reduceCtorEq, Nat.reduceAdd, Nat.reduceMul, Int.reduceToNat, Int.reduceLE, Int.reduceLT, Int.reduceEq, Int.reduceNe, Nat.reduceLeDiff, Int.reducePow, Nat.reducePow, Nat.reduceLT, Nat.reduceSub, Nat.reduceMod, Nat.reduceDiv, slot_neg, slot_pos, T.ag_3, T.ag_71, T.eb_71, T.es_71, T.ez_71, T.fo_77_0, T.fo_77_1, T.fo_77_2, T.fo_82_2, T.gf_65, T.gf_66, T.ib_3, T.ii_71, T.ip_3, T.pl_82, T.s8_71, T.sl_71, T.st_71, T.un_71, T.zo_82]
    exact hh
  refine CodeH.seq (fun r H => (∃ D' v', RfR H p D' v' (without (timeC c at_) (.string (str k))) ∧ (∀ d ∈ D', h.next ≤ d) ∧ Upd h H [p]) ∧ r 0 = .pointer (some ⟨p, 0, none⟩) ∧ r 1 = .string (str k) ∧ r 2 = .int .i64 n ∧ r 3 = .int .i64 keep) (CodeH.of_vc [] hm (by kernel_rfl) ?_) fun r H2 ⟨⟨D2, v2, hC2, hD2, hU2⟩, q0, q1, q2, q3⟩ => ?_
  · simp (config := { dsimp := false, maxSteps := 10000000 }) (disch := omega) only [go_sem, reduceIte, Nat.reduceEqDiff, reduceCtorEq, Nat.reduceAdd, Nat.reduceMul, Int.reduceToNat, Int.reduceLE, Int.reduceLT, Int.reduceEq, Int.reduceNe, Nat.reduceLeDiff, Int.reducePow, Nat.reducePow, Nat.reduceLT, Nat.reduceSub, Nat.reduceMod, Nat.reduceDiv, slot_neg, slot_pos, T.ag_3, T.ag_71, T.eb_71, T.es_71, T.ez_71, T.fo_77_0, T.fo_77_1, T.fo_77_2, T.fo_82_2, T.gf_65, T.gf_66, T.ib_3, T.ii_71, T.ip_3, T.pl_82, T.s8_71, T.sl_71, T.st_71, T.un_71, T.zo_82, q0, q1, q2, q3]
    refine (Rwithout_ph H1 p D1 v1 _ k hC1 (hkd.time at_)).mono fun u H2 ⟨hu, D2, v2, k1, k2, k3⟩ => ?_
    subst hu
    have := hU1.1
    simp (config := { dsimp := false, maxSteps := 10000000 }) (disch := omega) only [go_sem, reduceIte, Nat.reduceEqDiff, reduceCtorEq, Nat.reduceAdd, Nat.reduceMul, Int.reduceToNat, Int.reduceLE, Int.reduceLT, Int.reduceEq, Int.reduceNe, Nat.reduceLeDiff, Int.reducePow, Nat.reducePow, Nat.reduceLT, Nat.reduceSub, Nat.reduceMod, Nat.reduceDiv, slot_neg, slot_pos, T.ag_3, T.ag_71, T.eb_71, T.es_71, T.ez_71, T.fo_77_0, T.fo_77_1, T.fo_77_2, T.fo_82_2, T.gf_65, T.gf_66, T.ib_3, T.ii_71, T.ip_3, T.pl_82, T.s8_71, T.sl_71, T.st_71, T.un_71, T.zo_82, q0, q1, q2, q3]
    exact ⟨D2, v2, k1, fun d hd => by have := k2 d hd; omega, hU1.trans k3 fun d hd => .inl hd⟩
  clear hC1 hD1 hU1 hC
  unfold putS
  dsimp only
  generalize hcc : without (timeC c at_) (.string (str k)) = cc at *
  by_cases e0 : keep = 0
  · have e0' : (keep = 0) = True := eq_true e0
    (refine CodeH.seq' (CodeH.of_vc [] hm (by kernel_rfl) ?_); simp (config := { dsimp := false, maxSteps := 10000000 }) (disch := omega) only [go_sem, reduceIte, Nat.reduceEqDiff, reduceCtorEq, Nat.reduceAdd, Nat.reduceMul, Int.reduceToNat, Int.reduceLE, Int.reduceLT, Int.reduceEq, Int.reduceNe, Nat.reduceLeDiff, Int.reducePow, Nat.reducePow, Nat.reduceLT, Nat.reduceSub, Nat.reduceMod, Nat.reduceDiv, slot_neg, slot_pos, T.ag_3, T.ag_71, T.eb_71, T.es_71, T.ez_71, T.fo_77_0, T.fo_77_1, T.fo_77_2, T.fo_82_2, T.gf_65, T.gf_66, T.ib_3, T.ii_71, T.ip_3, T.pl_82, T.s8_71, T.sl_71, T.st_71, T.un_71, T.zo_82, init_a, q0, q1, q2, q3, e0'])
    exact ⟨D2, v2, hC2, hD2, hU2⟩
  have e0' : (keep = 0) = False := eq_false e0
  rw [if_neg e0]
  (refine CodeH.seq' (CodeH.of_vc [] hm (by kernel_rfl) ?_); simp (config := { dsimp := false, maxSteps := 10000000 }) (disch := omega) only [go_sem, reduceIte, Nat.reduceEqDiff, reduceCtorEq, Nat.reduceAdd, Nat.reduceMul, Int.reduceToNat, Int.reduceLE, Int.reduceLT, Int.reduceEq, Int.reduceNe, Nat.reduceLeDiff, Int.reducePow, Nat.reducePow, Nat.reduceLT, Nat.reduceSub, Nat.reduceMod, Nat.reduceDiv, slot_neg, slot_pos, T.ag_3, T.ag_71, T.eb_71, T.es_71, T.ez_71, T.fo_77_0, T.fo_77_1, T.fo_77_2, T.fo_82_2, T.gf_65, T.gf_66, T.ib_3, T.ii_71, T.ip_3, T.pl_82, T.s8_71, T.sl_71, T.st_71, T.un_71, T.zo_82, init_a, q0, q1, q2, q3, e0'])
  obtain ⟨l3, hl3⟩ : ∃ l3, (if cc.most ≤ (cc.l.length : Int) then dropMin cc.l else cc.l) = l3 := ⟨_, rfl⟩
  rw [hl3]
  refine CodeH.seq (fun r H => (∃ D' v', RfR H p D' v' { cc with l := l3 } ∧ (∀ d ∈ D', h.next ≤ d) ∧ Upd h H [p]) ∧ r 0 = .pointer (some ⟨p, 0, none⟩) ∧ r 1 = .string (str k) ∧ r 2 = .int .i64 n ∧ r 3 = .int .i64 keep) (CodeH.of_vc [14] hm (by kernel_rfl) ?_) fun r H3 ⟨⟨D3, v3, hC3, hD3, hU3⟩, q0, q1, q2, q3⟩ => ?_
  · obtain ⟨hpn2, hpD2, hp2, hr2, hsm2⟩ := hC2
    obtain ⟨A, st, hv⟩ := hr2.form
    by_cases hfull : cc.most ≤ (cc.l.length : Int)
    · have hf' : ((cc.l.length : Int) ≥ cc.most) = True := eq_true hfull
      rw [if_pos hfull] at hl3
      simp (config := { dsimp := false, maxSteps := 10000000 }) (disch := omega) only [go_sem, reduceIte, Nat.reduceEqDiff, reduceCtorEq, Nat.reduceAdd, Nat.reduceMul, Int.reduceToNat, Int.reduceLE, Int.reduceLT, Int.reduceEq, Int.reduceNe, Nat.reduceLeDiff, Int.reducePow, Nat.reducePow, Nat.reduceLT, Nat.reduceSub, Nat.reduceMod, Nat.reduceDiv, slot_neg, slot_pos, T.ag_3, T.ag_71, T.eb_71, T.es_71, T.ez_71, T.fo_77_0, T.fo_77_1, T.fo_77_2, T.fo_82_2, T.gf_65, T.gf_66, T.ib_3, T.ii_71, T.ip_3, T.pl_82, T.s8_71, T.sl_71, T.st_71, T.un_71, T.zo_82, q0, q1, q2, q3, hp2, hv, hfull, hf']
      have hmost := hOk2.most
      have hpos : 0 < cc.l.length := by omega
      refine loop_intro [14] hm (fun r H => H = H2 ∧ ∃ (i f : Nat) (x : Th), i ≤ cc.l.length ∧ f < cc.l.length ∧ cc.l[f]? = some x ∧ (f < i ∨ (i = 0 ∧ f = 0)) ∧ (∀ (j : Nat) (y : Th), j < i → cc.l[j]? = some y → x.goes ≤ y.goes) ∧ (∀ (j : Nat) (y : Th), j < f → cc.l[j]? = some y → x.goes < y.goes) ∧ r 0 = .pointer (some ⟨p, 0, none⟩) ∧ r 1 = .string (str k) ∧ r 2 = .int .i64 n ∧ r 3 = .int .i64 keep ∧ r 11 = .int .i64 f ∧ r 12 = .int .i64 i) (fun r _ => match r 12 with | .int _ i => cc.l.length - i.toNat | _ => 0) ?_ ?_
      · exact ⟨rfl, 0, 0, cc.l[0], by omega, hpos, List.getElem?_eq_getElem hpos, .inr ⟨rfl, rfl⟩, by omega, by omega, by simp [upd, q0], by simp [upd, q1], by simp [upd, q2], by simp [upd, q3], by simp [upd], by simp [upd]⟩
      · rintro r H ⟨rfl, i, f, x, hi, hf, hx, hfi, hle, hlf, q0, q1, q2, q3, q11, q12⟩
        obtain ⟨q, off, vs, o, hv', hq, y0, y1, yk, yv, yg⟩ := row_th hr2.row hx
        by_cases hlt : i < cc.l.length
        · have hlt' : ((i : Int) < (cc.l.length : Int)) = True := eq_true (by omega)
          have hyi : cc.l[i]? = some cc.l[i] := List.getElem?_eq_getElem hlt
          have w1 : IntKind.i64.wrap ((i : Int) + 1) = ((i + 1 : Nat) : Int) := by rw [i64wrap] <;> omega
          have hf2 : ((f : Int) < (cc.l.length : Int)) = True := eq_true (by omega)
          obtain ⟨q', off', vs', o', hv2, hq', z0, z1, zk, zv, zg⟩ := row_th hr2.row hyi
          rw [hv'] at hv2
          cases hv2
          rw [hq] at hq'
          cases hq'
          generalize cc.l[i] = y at *
          by_cases c5 : y.goes < x.goes
          · have c5' : (y.goes < x.goes) = True := eq_true c5
            simp (config := { dsimp := false, maxSteps := 10000000 }) (disch := omega) only [go_sem, reduceIte, Nat.reduceEqDiff, reduceCtorEq, Nat.reduceAdd, Nat.reduceMul, Int.reduceToNat, Int.reduceLE, Int.reduceLT, Int.reduceEq, Int.reduceNe, Nat.reduceLeDiff, Int.reducePow, Nat.reducePow, Nat.reduceLT, Nat.reduceSub, Nat.reduceMod, Nat.reduceDiv, slot_neg, slot_pos, T.ag_3, T.ag_71, T.eb_71, T.es_71, T.ez_71, T.fo_77_0, T.fo_77_1, T.fo_77_2, T.fo_82_2, T.gf_65, T.gf_66, T.ib_3, T.ii_71, T.ip_3, T.pl_82, T.s8_71, T.sl_71, T.st_71, T.un_71, T.zo_82, q0, q1, q2, q3, q11, q12, hp2, hv', hlt', hf2, hq, yg, zg, c5', w1]
            refine ⟨⟨i + 1, i, y, hlt, hlt, hyi, .inl (Nat.lt_succ_self _), fun j z hj hz => ?_, fun j z hj hz => ?_, rfl, rfl⟩, by omega⟩
            · rcases Nat.lt_or_ge j i with h5 | h5
              · have := hle j z h5 hz; omega
              · obtain rfl : j = i := by omega
                rw [hyi] at hz; cases hz; exact Int.le_refl _
            · have := hle j z hj hz; omega
          · have c5' : (y.goes < x.goes) = False := eq_false c5
            simp (config := { dsimp := false, maxSteps := 10000000 }) (disch := omega) only [go_sem, reduceIte, Nat.reduceEqDiff, reduceCtorEq, Nat.reduceAdd, Nat.reduceMul, Int.reduceToNat, Int.reduceLE, Int.reduceLT, Int.reduceEq, Int.reduceNe, Nat.reduceLeDiff, Int.reducePow, Nat.reducePow, Nat.reduceLT, Nat.reduceSub, Nat.reduceMod, Nat.reduceDiv, slot_neg, slot_pos, T.ag_3, T.ag_71, T.eb_71, T.es_71, T.ez_71, T.fo_77_0, T.fo_77_1, T.fo_77_2, T.fo_82_2, T.gf_65, T.gf_66, T.ib_3, T.ii_71, T.ip_3, T.pl_82, T.s8_71, T.sl_71, T.st_71, T.un_71, T.zo_82, q0, q1, q2, q3, q11, q12, hp2, hv', hlt', hf2, hq, yg, zg, c5', w1]
            refine ⟨⟨i + 1, f, x, hlt, hf, hx, .inl (by omega), fun j z hj hz => ?_, hlf, rfl, rfl⟩, by omega⟩
            rcases Nat.lt_or_ge j i with h5 | h5
            · exact hle j z h5 hz
            · obtain rfl : j = i := by omega
              rw [hyi] at hz; cases hz; omega
        · have hlt' : ((i : Int) < (cc.l.length : Int)) = False := eq_false (by omega)
          obtain rfl : i = cc.l.length := by omega
          simp (config := { dsimp := false, maxSteps := 10000000 }) (disch := omega) only [go_sem, reduceIte, Nat.reduceEqDiff, reduceCtorEq, Nat.reduceAdd, Nat.reduceMul, Int.reduceToNat, Int.reduceLE, Int.reduceLT, Int.reduceEq, Int.reduceNe, Nat.reduceLeDiff, Int.reducePow, Nat.reducePow, Nat.reduceLT, Nat.reduceSub, Nat.reduceMod, Nat.reduceDiv, slot_neg, slot_pos, T.ag_3, T.ag_71, T.eb_71, T.es_71, T.ez_71, T.fo_77_0, T.fo_77_1, T.fo_77_2, T.fo_82_2, T.gf_65, T.gf_66, T.ib_3, T.ii_71, T.ip_3, T.pl_82, T.s8_71, T.sl_71, T.st_71, T.un_71, T.zo_82, q0, q1, q2, q3, q11, q12, hp2, hv', hlt']
          rw [hv'] at hr2
          obtain ⟨hDq, hqn, _, _, vs2, hq2, hR⟩ := hr2.at_
          rw [hq] at hq2
          cases hq2
          have qp : (q = p) = False := eq_false fun e => hpD2 (by subst e; rw [hDq]; simp)
          have qn : (q = H.next) = False := eq_false (by omega)
          have qn2 : (q = H.next + 1) = False := eq_false (by omega)
          have wf1 : IntKind.i64.wrap ((f : Int) + 1) = ((f + 1 : Nat) : Int) := by rw [i64wrap] <;> omega
          have hR1 := hR.1
          rw [refE_k] at hR1
          have b1 : ((f : Int) ≤ (cc.l.length : Int)) = True := eq_true (by omega)
          have b2 : (off + f * 3 ≤ vs.length) = True := eq_true (by omega)
          have b3 : List.take (f * 3) (List.drop off vs) = refE.flat (cc.l.take f) := by
            have := (hR.take f (by omega)).2
            rwa [List.length_take, Nat.min_eq_left (by omega)] at this
          have b4 : (f * 32 ≤ 140737488355328) = True := eq_true (by omega)
          have b5 : (f ≤ 9223372036854775807) = True := eq_true (by omega)
          have b6 : (((f + 1 : Nat) : Int) ≤ (cc.l.length : Int)) = True := eq_true (by omega)
          have b7 : ((refE.flat (cc.l.take f)).all fun x => x.oneCell') = true := flat_one _
          refine draw_plan [p] (.take 0 (.take 2 (.take 3 (.take 4 (.take 6 (.take 9 (.take 10 (.take 11 (.take 13 (.take 14 (.alt 1 (.takeS 5 (.takeS 7 (.alt 8 (.takeS 12 (.takeS 15 (.alt 16 (.takeS 17 (.takeS 18 (.alt 19 .done .stop))) .stop))) (.alt 12 (.take 15 (.alt 8 (.alt 16 (.takeS 17 (.takeS 18 (.alt 19 .done .stop))) .stop) .stop)) .stop)))) (.alt 5 (.take 7 (.alt 1 (.alt 8 (.takeS 12 (.takeS 15 (.alt 16 (.takeS 17 (.takeS 18 (.alt 19 .done .stop))) .stop))) (.alt 12 (.take 15 (.alt 8 (.alt 16 (.takeS 17 (.takeS 18 (.alt 19 .done .stop))) .stop) .stop)) .stop)) (.alt 12 (.take 15 (.alt 1 (.alt 8 (.alt 16 (.takeS 17 (.takeS 18 (.alt 19 .done .stop))) .stop) .stop) .stop)) .stop))) (.alt 12 (.take 15 (.alt 1 (.takeS 5 (.takeS 7 (.alt 8 (.alt 16 (.takeS 17 (.takeS 18 (.alt 19 .done .stop))) .stop) .stop))) (.alt 5 (.take 7 (.alt 1 (.alt 8 (.alt 16 (.takeS 17 (.takeS 18 (.alt 19 .done .stop))) .stop) .stop) .stop)) .stop))) .stop))))))))))))) hm (by kernel_rfl) (by kernel_rfl) ?_
          simp (config := { dsimp := false, maxSteps := 10000000 }) (disch := omega) only [go_sem, reduceIte, Nat.reduceEqDiff, reduceCtorEq, Nat.reduceAdd, Nat.reduceMul, Int.reduceToNat, Int.reduceLE, Int.reduceLT, Int.reduceEq, Int.reduceNe, Nat.reduceLeDiff, Int.reducePow, Nat.reducePow, Nat.reduceLT, Nat.reduceSub, Nat.reduceMod, Nat.reduceDiv, slot_neg, slot_pos, T.ag_3, T.ag_71, T.eb_71, T.es_71, T.ez_71, T.fo_77_0, T.fo_77_1, T.fo_77_2, T.fo_82_2, T.gf_65, T.gf_66, T.ib_3, T.ii_71, T.ip_3, T.pl_82, T.s8_71, T.sl_71, T.st_71, T.un_71, T.zo_82, q0, q1, q2, q3, q11, q12, hp2, hv', qp, qn, qn2, hq, wf1, lock_live', lock_cells, lk_own, b1, b2, b3, b4, b5, b6, b7]
          have en : ((cc.l.length : Int) - ((f + 1 : Nat) : Int)).toNat = cc.l.length - (f + 1) := by omega
          have b8 : List.take ((cc.l.length - (f + 1)) * 3) (List.drop (off + (f + 1) * 3) vs) = refE.flat (cc.l.drop (f + 1)) := by
            have := (hR.drop (f + 1) (by omega)).2
            rwa [List.length_drop] at this
          have fl1 : (refE.flat (cc.l.take f)).length = f * 3 := by rw [flat_len, refE_k, List.length_take, Nat.min_eq_left (by omega)]
          have b9 : List.take (f * 3) (refE.flat (cc.l.take f)) = refE.flat (cc.l.take f) := List.take_of_length_le (by omega)
          rw [en, b8, b9]
          refine ⟨by omega, flat_one _, ⟨by omega, by omega, by omega⟩, [H.next + 2], .slice (some ⟨H.next + 1 + 1, 0, none⟩) (f + (cc.l.length - (f + 1))) 3, ?_⟩
          rw [← flat_app]
          obtain ⟨H9, hH9⟩ : ∃ H9, H.unmask [p] ((appHeap (appHeap ((H.mask [p]).alloc (Blk.cells [] Own.own)) ⟨H.next, 0, none⟩ (refE.flat (List.take f cc.l))) ⟨H.next + 1, 0, none⟩ (refE.flat (cc.l.take f ++ cc.l.drop (f + 1)))).put p (.live (.cells [.slice (some ⟨H.next + 1 + 1, 0, none⟩) (f + (cc.l.length - (f + 1))) 3, .int .i64 cc.most, .int .i64 cc.now] .own))) = H9 := ⟨_, rfl⟩
          have hU9 : Upd h H9 [p] := by
            rw [← hH9]
            refine hU2.unmask ?_ (by simp)
            show H.next ≤ H.next + 1 + 1 + 1
            omega
          have g9 : H9.get p = .live (.cells [.slice (some ⟨H.next + 1 + 1, 0, none⟩) (f + (cc.l.length - (f + 1))) 3, .int .i64 cc.most, .int .i64 cc.now] .own) := by
            rw [← hH9, get_unmask, if_neg (by simp), get_put, if_pos rfl]
          have g9q : H9.get (H.next + 2) = .live (.cells (refE.flat (cc.l.take f ++ cc.l.drop (f + 1))) .own) := by
            rw [← hH9, get_unmask, if_neg (by omega), get_put, if_neg (by omega)]
            exact if_pos rfl
          have n9 : H.next + 2 < H9.next := by rw [← hH9]; show H.next + 2 < H.next + 1 + 1 + 1; omega
          rw [hH9]
          have hl3' : l3 = cc.l.take f ++ cc.l.drop (f + 1) := by rw [← hl3]; exact dropMin_at hOk2.asc hx (fun j y hj => hle j y (List.getElem?_eq_some_iff.1 hj).1 hj) hlf
          have hlen3 : (cc.l.take f ++ cc.l.drop (f + 1)).length = f + (cc.l.length - (f + 1)) := by simp; omega
          have hn2 := hU2.1
          refine ⟨⟨Nat.lt_of_lt_of_le hpn hU9.1, by simp; omega, g9, ?_, ?_⟩, by simp; omega, hU9⟩
          · simp only [hl3']
            refine .inr ⟨H.next + 2, 0, _, rfl, n9, by rw [hlen3]; rfl, g9q, RowV.all _⟩
          · simp only [hl3', hlen3]; omega
    · have hf' : ((cc.l.length : Int) ≥ cc.most) = False := eq_false (by omega)
      rw [if_neg hfull] at hl3
      subst hl3
      simp (config := { dsimp := false, maxSteps := 10000000 }) (disch := omega) only [go_sem, reduceIte, Nat.reduceEqDiff, reduceCtorEq, Nat.reduceAdd, Nat.reduceMul, Int.reduceToNat, Int.reduceLE, Int.reduceLT, Int.reduceEq, Int.reduceNe, Nat.reduceLeDiff, Int.reducePow, Nat.reducePow, Nat.reduceLT, Nat.reduceSub, Nat.reduceMod, Nat.reduceDiv, slot_neg, slot_pos, T.ag_3, T.ag_71, T.eb_71, T.es_71, T.ez_71, T.fo_77_0, T.fo_77_1, T.fo_77_2, T.fo_82_2, T.gf_65, T.gf_66, T.ib_3, T.ii_71, T.ip_3, T.pl_82, T.s8_71, T.sl_71, T.st_71, T.un_71, T.zo_82, q0, q1, q2, q3, hp2, hv, hfull, hf']
      exact ⟨D2, v2, ⟨hpn2, hpD2, hp2, hr2, hsm2⟩, hD2, hU2⟩
  obtain ⟨hpn3, hpD3, hp3, hr3, hsm3⟩ := hC3
  have hnow := hOk2.now
  unfold farC at hnow
  have wg : IntKind.i64.wrap (cc.now + keep) = cc.now + keep := by rw [i64wrap] <;> omega
  have hput : CaOk { cc with l := l3 ++ [⟨.string (str k), .int .i64 n, cc.now + keep, cc.puts + 1, b, one⟩], puts := cc.puts + 1 } := by
    have := hO.put (k := .string (str k)) (v := .int .i64 n) (keep := keep) (at_ := at_) (b := b) (one := one)
    unfold putS at this
    dsimp only at this
    rw [hcc, if_neg e0, hl3] at this
    exact this
  have hl3b : l3.length ≤ 20000 := hsm3
  have hplen := hput.len
  simp only [List.length_append, List.length_singleton] at hplen
  refine CodeH.seq (fun r H => ∃ D' v', RfR H p D' v' { cc with l := l3 ++ [⟨.string (str k), .int .i64 n, cc.now + keep, cc.puts + 1, b, one⟩], puts := cc.puts + 1 } ∧ (∀ d ∈ D', h.next ≤ d) ∧ Upd h H [p]) (CodeH.of_vc [15] hm (by kernel_rfl) ?_) fun r H4 hh => ?_
  · refine draw_plan0 (.takeS 5 (.takeS 6 (.takeS 7 (.takeS 8 (.takeS 9 (.takeS 10 (.takeS 11 (.takeS 12 (.takeS 13 (.take 0 (.take 1 (.take 2 (.take 3 (.alt 4 (.alt 14 (.alt 15 (.takeS 16 (.takeS 17 (.alt 18 .done .stop))) .stop) .stop) (.alt 14 (.takeS 4 (.alt 15 (.takeS 16 (.takeS 17 (.alt 18 .done .stop))) .stop)) .stop))))))))))))))) hm (by kernel_rfl) (by kernel_rfl) ?_
    rcases hr3 with ⟨rfl, hnil, rfl⟩ | ⟨q, off, vs, rfl, hqn, rfl, hq, hR⟩
    · have hnil' : l3 = [] := hnil
      subst hnil'
      simp (config := { dsimp := false, maxSteps := 10000000 }) (disch := omega) only [go_sem, reduceIte, Nat.reduceEqDiff, reduceCtorEq, Nat.reduceAdd, Nat.reduceMul, Int.reduceToNat, Int.reduceLE, Int.reduceLT, Int.reduceEq, Int.reduceNe, Nat.reduceLeDiff, Int.reducePow, Nat.reducePow, Nat.reduceLT, Nat.reduceSub, Nat.reduceMod, Nat.reduceDiv, slot_neg, slot_pos, T.ag_3, T.ag_71, T.eb_71, T.es_71, T.ez_71, T.fo_77_0, T.fo_77_1, T.fo_77_2, T.fo_82_2, T.gf_65, T.gf_66, T.ib_3, T.ii_71, T.ip_3, T.pl_82, T.s8_71, T.sl_71, T.st_71, T.un_71, T.zo_82, q0, q1, q2, q3, hp3, wg]
      have hn3 := hU3.1
      refine ⟨[H3.next + 1], .slice (some ⟨H3.next + 1, 0, none⟩) 1 3, ⟨by simp only [next_put, next_alloc]; omega, by simp; omega, by rw [get_put, if_pos rfl], .inr ⟨H3.next + 1, 0, [.string (str k), .int .i64 n, .int .i64 (cc.now + keep)], rfl, by simp only [next_put, next_alloc]; omega, rfl, by simp (config := { dsimp := false }) (disch := omega) only [get_alloc, get_put, get_app, next_alloc, next_put, next_app, get_mask, get_unmask, next_mask, next_unmask, List.mem_cons, List.not_mem_nil, or_false, true_or, or_true, false_or, and_true, true_and, and_false, false_and, not_true_eq_false, not_false_eq_true, ne_eq, reduceIte, slot_neg, slot_pos], ?_⟩, by simp⟩, by simp; omega, ((hU3.allocs).allocs).put (.inl (by simp))⟩
      exact RowV.all (E := refE) [_]
    · have hpq : (p = q) = False := eq_false fun e => hpD3 (by simp [e])
      have hR1 := hR.1
      rw [refE_k] at hR1
      have hR2 : off + l3.length * 3 ≤ vs.length := hR1
      have b1 : (off + l3.length * 3 ≤ vs.length) = True := eq_true hR2
      have b2 : ((l3.length + 1) * 32 ≤ 140737488355328) = True := eq_true (by omega)
      have b3 : (l3.length ≤ 9223372036854775806) = True := eq_true (by omega)
      have b4 : List.take (l3.length * 3) (List.drop off vs) = refE.flat l3 := hR.2
      have n1 : (q = H3.next) = False := eq_false (by omega)
      simp (config := { dsimp := false, maxSteps := 10000000 }) (disch := omega) only [go_sem, reduceIte, Nat.reduceEqDiff, reduceCtorEq, Nat.reduceAdd, Nat.reduceMul, Int.reduceToNat, Int.reduceLE, Int.reduceLT, Int.reduceEq, Int.reduceNe, Nat.reduceLeDiff, Int.reducePow, Nat.reducePow, Nat.reduceLT, Nat.reduceSub, Nat.reduceMod, Nat.reduceDiv, slot_neg, slot_pos, T.ag_3, T.ag_71, T.eb_71, T.es_71, T.ez_71, T.fo_77_0, T.fo_77_1, T.fo_77_2, T.fo_82_2, T.gf_65, T.gf_66, T.ib_3, T.ii_71, T.ip_3, T.pl_82, T.s8_71, T.sl_71, T.st_71, T.un_71, T.zo_82, q0, q1, q2, q3, hp3, wg, hq, hpq, b1, b2, b3, b4, n1, refE_k]
      have hn3 := hU3.1
      have hq3 := hD3 q (by simp)
      obtain ⟨H9, hH9⟩ : ∃ H9, (appHeap (H3.alloc (.cells [.string (str k), .int .i64 n, .int .i64 (cc.now + keep)] .own)) ⟨q, off, none⟩ (refE.flat l3 ++ [.string (str k), .int .i64 n, .int .i64 (cc.now + keep)])).put p (.live (.cells [.slice (some ⟨H3.next + 1, 0, none⟩) (l3.length + 1) 3, .int .i64 cc.most, .int .i64 cc.now] .own)) = H9 := ⟨_, rfl⟩
      have g9 : H9.get p = .live (.cells [.slice (some ⟨H3.next + 1, 0, none⟩) (l3.length + 1) 3, .int .i64 cc.most, .int .i64 cc.now] .own) := by rw [← hH9, get_put, if_pos rfl]
      have g9q : H9.get (H3.next + 1) = .live (.cells (refE.flat l3 ++ [.string (str k), .int .i64 n, .int .i64 (cc.now + keep)]) .own) := by
        rw [← hH9, get_put, if_neg (by omega)]; exact if_pos rfl
      have n9 : H9.next = H3.next + 2 := by rw [← hH9]; rfl
      have hU9 : Upd h H9 [p] := by
        rw [← hH9]
        refine Upd.put ?_ (.inl (by simp))
        refine ⟨by simp only [next_app, next_alloc]; omega, fun id hid hne => ?_⟩
        rw [get_app, if_neg (by simp only [next_alloc]; omega), if_neg (by simp only; omega), get_alloc, if_neg (by omega)]
        exact hU3.2 id hid hne
      rw [hH9]
      refine ⟨[H3.next + 1], .slice (some ⟨H3.next + 1, 0, none⟩) (l3.length + 1) 3, ⟨by omega, by simp; omega, g9, .inr ⟨H3.next + 1, 0, _, rfl, by omega, by simp [refE_k], g9q, ?_⟩, by simp only [List.length_append, List.length_singleton]; omega⟩, by simp; omega, hU9⟩
      have := RowV.all (E := refE) (l3 ++ [⟨.string (str k), .int .i64 n, cc.now + keep, cc.puts + 1, b, one⟩])
      rwa [flat_app, flat_sing] at this
  · (refine CodeH.of_vc [] hm (by kernel_rfl) ?_; simp (config := { dsimp := false, maxSteps := 10000000 }) (disch := omega) only [go_sem, reduceIte, Nat.reduceEqDiff, reduceCtorEq, Nat.reduceAdd, Nat.reduceMul, Int.reduceToNat, Int.reduceLE, Int.reduceLT, Int.reduceEq, Int.reduceNe, Nat.reduceLeDiff, Int.reducePow, Nat.reducePow, Nat.reduceLT, Nat.reduceSub, Nat.reduceMod, Nat.reduceDiv, slot_neg, slot_pos, T.ag_3, T.ag_71, T.eb_71, T.es_71, T.ez_71, T.fo_77_0, T.fo_77_1, T.fo_77_2, T.fo_82_2, T.gf_65, T.gf_66, T.ib_3, T.ii_71, T.ip_3, T.pl_82, T.s8_71, T.sl_71, T.st_71, T.un_71, T.zo_82, init_a])
    exact hh
end Ph
