import Derived.Test.YtliblomkhapibaaL27
set_option maxRecDepth 100000
set_option maxHeartbeats 4000000
set_option linter.unusedSimpArgs false
set_option linter.unusedVariables false
namespace Ph
open Go Go.Proofs
attribute [local irreducible] Value.cells
attribute [local go_sem ↓] y_move y_assign y_pick y_nil y_bin y_un y_fa y_field y_ext y_ia y_ix y_slice y_build y_mf y_load y_len y_min y_max y_conv y_bs y_mk y_alloc y_box y_store y_clear y_app y_callf y_callt s_move s_assign s_pick s_nil s_bin s_un s_fa s_field s_ext s_ia s_ix s_slice s_conv s_build s_bs s_mf s_alloc s_box s_load s_store s_len s_clear s_min s_max s_app s_call q_call q_move q_assign q_pick q_nil q_bin q_un q_fa q_field q_ext q_ia q_ix q_slice q_conv q_build q_mf q_load q_len q_min q_max l_nil l_move l_assign l_pick l_nilc l_bin l_un l_fa l_field l_ext l_ia l_ix l_slice l_conv l_build l_mf l_load l_len l_min l_max l_call put_eq putN_eq o_nil o_plain o_gate v_nil v_plain v_gate vc_skip vc_region vc_seq vc_cond vc_block vc_loop vc_rf vc_exit vc_ret blk_normal blk_ret blk_exit on_normal on_ret on_exit vc_drawn draw_q s_mk l_bs l_mk l_alloc l_box l_store l_app l_clear pl_done pl_takeS pl_take pl_alt pl_stop one_plain one_gate
attribute [local go_sem] clear_nil clear_sl onAgg_a onTuple_t onFn_f onFn_y onFunc_f c_int c_nil c_sl c_str sl_sl sl_nil sl_str ix_str ix_agg n_nil n_sl n_str app_eq k_nil k_sl len_sl len_str upd_some upd_none ev_tmp ev_const ev_func rd_some gdst_eq otmp_t otmp_c get_put get_alloc next_put next_alloc get_app next_app init_a resV1 resV2 onPtr_ptr onBool_b onInt_i onSlice_s onSome_s onCells_c lett_eq gate_tt gate_tf gate_ff gate_ft gate_dt gate_df also_eq bin un minmax io_none io_some bo_none bo_some partOf List.getElem?_cons_zero List.getElem?_cons_succ List.getElem?_toArray Option.map_some Option.map_none Option.bind_some ne_eq not_true_eq_false not_false_eq_true false_implies true_implies and_true true_and and_self Bool.false_eq_true Nat.zero_add Nat.add_zero List.size_toArray List.length_cons List.length_nil List.map_toArray List.map_cons List.map_nil Array.getD_eq_getD_getElem? Option.getD_some Bool.not_true Bool.not_false Bool.not_eq_true Option.isNone_some Option.isNone_none List.append_toArray List.append_nil List.nil_append List.cons_append decide_true decide_false in_nil in_cons Bool.and_false Bool.and_true Bool.or_false Bool.true_or Bool.false_or get_mask next_mask get_unmask next_unmask ac_move ac_assign ac_pick ac_nil ac_bin ac_un ac_fa ac_field ac_ext ac_ia ac_ix ac_slice ac_build ac_mf ac_call ac_load ac_conv accP_p accS_s accS_n accS_i accS_t fixed_ro fixed_lock fixed_own get_ro next_ro lock_live' lock_cells List.mem_cons List.not_mem_nil or_false false_or or_true true_or and_false false_and IntKind.bits Int.natCast_zero Int.natCast_one size_str data_str list_str mk_str ext_str app_str bytes_str w_byte w_byteu Int.toNat_natCast Int.toNat_zero Int.toNat_one Nat.sub_zero ge_iff_le gt_iff_lt Nat.le_refl Int.le_refl List.drop_zero Int.ofNat_eq_natCast Int.natCast_nonneg Int.sub_zero oc_int oc_bool oc_str oc_ptr oc_sl oc_map oc_func List.set_cons_zero List.set_cons_succ Nat.mul_one List.all_cons List.all_nil Bool.and_self res_nil res_tmp res_cell tup_one tup_two tup_nil fill_nil repl_zero cells_agg List.append_eq List.toList_toArray Nat.zero_mul Nat.one_mul repl_one repl_two onSome_build fill_cons onSome_lit splice_eq cells_int cells_bool cells_str cells_ptr cells_sl cells_map cells_func loadK_n loadK_s load_k storeK_n storeK_s store_k all_arr List.take_zero List.take_succ_cons List.drop_succ_cons List.take_nil List.drop_nil lk_own lk_ro lk_lock lk_lk fixed_lk gate_nt gate_nf gate3_b gate3_u undef Bool.true_and Bool.false_and nx_l nx_r nx_lt put_put resV0
/-! LossEvents: the document's Fire. -/
def RFP (h : Heap) (m : Nat) (D : List Nat) (L : List RP) (r : St × List Int × Bool × Int) (u : Value) (H : Heap) : Prop :=
  ∃ v L', u = .tuple #[v, .bool r.2.2.1, .int .i64 r.2.2.2] ∧ NumR H v r.2.1 ∧ RefR H m D L' r.1 ∧ RI L' r.1 ∧ L'.length = L.length ∧ Upd h H (m :: D)
theorem nilNum (H : Heap) : NumR H (.slice none 0 0) [] := (OwnRow.nil H).num
theorem rfire_ph (h : Heap) (m : Nat) (D : List Nat) (L : List RP) (s : St) (at_ : Int) (hR : RefR h m D L s) (hI : RI L s) (hl : L.length ≤ 100000) :
    @CallsH Try.prog 24 #[.pointer (some ⟨m, 0, none⟩), .int .i64 at_] h ⟨fun u H => RFP h m D L (fireS s at_) u H⟩ := by
  have hR0 := hR
  obtain ⟨hmn, hmD, w, hg, hO⟩ := hR
  have bt := hI.ok.tries
  have bn := hI.ok.now
  (refine calls_of_codeR (rs := [.tmp 4, .tmp 5, .tmp 6]) Try.func24 rfl rfl (by simp) ?_)
  (refine CodeH.seq' (CodeH.of_vc [] hm (by kernel_rfl) ?_); simp (config := { dsimp := false, maxSteps := 10000000 }) (disch := omega) only [go_sem, reduceIte, Nat.reduceEqDiff, reduceCtorEq, Nat.reduceAdd, Nat.reduceMul, Int.reduceToNat, Int.reduceLE, Int.reduceLT, Int.reduceEq, Int.reduceNe, Nat.reduceLeDiff, Int.reducePow, Nat.reducePow, Nat.reduceLT, Nat.reduceSub, Nat.reduceMod, Nat.reduceDiv, slot_neg, slot_pos, T.ag_3, T.fo_59_10, T.fo_59_11, T.gf_25, T.gf_42, T.ib_3, T.ip_3, init_a])
  by_cases c1 : at_ < s.now
  · have e : fireS s at_ = (s, [], false, 1) := by unfold fireS; rw [if_neg (by unfold timeOk; simp; omega)]
    have c1' : (at_ < s.now) = True := eq_true c1
    (refine CodeH.seq' (CodeH.of_vc [] hm (by kernel_rfl) ?_); simp (config := { dsimp := false, maxSteps := 10000000 }) (disch := omega) only [go_sem, reduceIte, Nat.reduceEqDiff, reduceCtorEq, Nat.reduceAdd, Nat.reduceMul, Int.reduceToNat, Int.reduceLE, Int.reduceLT, Int.reduceEq, Int.reduceNe, Nat.reduceLeDiff, Int.reducePow, Nat.reducePow, Nat.reduceLT, Nat.reduceSub, Nat.reduceMod, Nat.reduceDiv, slot_neg, slot_pos, T.ag_3, T.fo_59_10, T.fo_59_11, T.gf_25, T.gf_42, T.ib_3, T.ip_3, init_a, hg, refC, c1'])
    rw [e]
    exact ⟨_, L, rfl, nilNum _, hR0, hI, rfl, Upd.refl _ _⟩
  have c1' : (at_ < s.now) = False := eq_false c1
  by_cases c2 : 1099511627776 < at_
  · have e : fireS s at_ = (s, [], false, 1) := by unfold fireS; rw [if_neg (by unfold timeOk; simp; omega)]
    have c2' : (1099511627776 < at_) = True := eq_true c2
    (refine CodeH.seq' (CodeH.of_vc [] hm (by kernel_rfl) ?_); simp (config := { dsimp := false, maxSteps := 10000000 }) (disch := omega) only [go_sem, reduceIte, Nat.reduceEqDiff, reduceCtorEq, Nat.reduceAdd, Nat.reduceMul, Int.reduceToNat, Int.reduceLE, Int.reduceLT, Int.reduceEq, Int.reduceNe, Nat.reduceLeDiff, Int.reducePow, Nat.reducePow, Nat.reduceLT, Nat.reduceSub, Nat.reduceMod, Nat.reduceDiv, slot_neg, slot_pos, T.ag_3, T.fo_59_10, T.fo_59_11, T.gf_25, T.gf_42, T.ib_3, T.ip_3, init_a, hg, refC, c1', c2'])
    rw [e]
    exact ⟨_, L, rfl, nilNum _, hR0, hI, rfl, Upd.refl _ _⟩
  have c2' : (1099511627776 < at_) = False := eq_false c2
  have hto : timeOk s at_ = true := decide_eq_true ⟨by omega, by omega⟩
  (refine CodeH.seq' (CodeH.of_vc [] hm (by kernel_rfl) ?_); simp (config := { dsimp := false, maxSteps := 10000000 }) (disch := omega) only [go_sem, reduceIte, Nat.reduceEqDiff, reduceCtorEq, Nat.reduceAdd, Nat.reduceMul, Int.reduceToNat, Int.reduceLE, Int.reduceLT, Int.reduceEq, Int.reduceNe, Nat.reduceLeDiff, Int.reducePow, Nat.reducePow, Nat.reduceLT, Nat.reduceSub, Nat.reduceMod, Nat.reduceDiv, slot_neg, slot_pos, T.ag_3, T.fo_59_10, T.fo_59_11, T.gf_25, T.gf_42, T.ib_3, T.ip_3, init_a, hg, refC, c1', c2'])
  (refine CodeH.seq' (CodeH.of_vc [] hm (by kernel_rfl) ?_); simp (config := { dsimp := false, maxSteps := 10000000 }) (disch := omega) only [go_sem, reduceIte, Nat.reduceEqDiff, reduceCtorEq, Nat.reduceAdd, Nat.reduceMul, Int.reduceToNat, Int.reduceLE, Int.reduceLT, Int.reduceEq, Int.reduceNe, Nat.reduceLeDiff, Int.reducePow, Nat.reducePow, Nat.reduceLT, Nat.reduceSub, Nat.reduceMod, Nat.reduceDiv, slot_neg, slot_pos, T.ag_3, T.fo_59_10, T.fo_59_11, T.gf_25, T.gf_42, T.ib_3, T.ip_3, init_a, hg, refC])
  refine CodeH.gen (fun r' H' => RefR H' m D L { s with now := at_ } ∧ Upd h H' (m :: D) ∧ r' 0 = .pointer (some ⟨m, 0, none⟩) ∧ r' 1 = .int .i64 at_) ⟨RefR.put (s' := { s with now := at_ }) hmn hmD hO, (Upd.refl h (m :: D)).put (.inl (by simp)), by simp [upd, initR], by simp [upd, initR]⟩ fun r H1 ⟨hR1, hU1, q0, q1⟩ => ?_
  have hI1 := hI.at (at_ := at_) (by omega) (by omega)
  have hf : fireS s at_ = if (timerS { s with now := at_ }).2.1 = true ∧ (timerS { s with now := at_ }).1 ≤ at_ then (if (timerS { s with now := at_ }).2.2 then (giveS { s with now := at_ } at_, (giveL { s with now := at_ } at_).map (·.num), false, 0) else ({ s with now := at_, tries := min (s.tries + 1) 5 }, [], true, 0)) else ({ s with now := at_ }, [], false, 0) := by
    unfold fireS; rw [if_pos hto]
  rw [hf]
  (refine CodeH.seq' (CodeH.of_vc [] hm (by kernel_rfl) ?_); simp (config := { dsimp := false, maxSteps := 10000000 }) (disch := omega) only [go_sem, reduceIte, Nat.reduceEqDiff, reduceCtorEq, Nat.reduceAdd, Nat.reduceMul, Int.reduceToNat, Int.reduceLE, Int.reduceLT, Int.reduceEq, Int.reduceNe, Nat.reduceLeDiff, Int.reducePow, Nat.reducePow, Nat.reduceLT, Nat.reduceSub, Nat.reduceMod, Nat.reduceDiv, slot_neg, slot_pos, T.ag_3, T.fo_59_10, T.fo_59_11, T.gf_25, T.gf_42, T.ib_3, T.ip_3, init_a, q0, q1])
  refine CallsH.pure _ rfl (rtimer_ph _ m L { s with now := at_ } hR1.view.ro hI1.ok hI1.waits hI1.asc hl) ?_
  obtain ⟨when, ok, lost⟩ := timerS { s with now := at_ }
  have hR1' := hR1
  obtain ⟨_, _, w2, hg1, hO1⟩ := hR1
  cases ok with
  | false =>
    simp (config := { dsimp := false, maxSteps := 10000000 }) (disch := omega) only [go_sem, reduceIte, Nat.reduceEqDiff, reduceCtorEq, Nat.reduceAdd, Nat.reduceMul, Int.reduceToNat, Int.reduceLE, Int.reduceLT, Int.reduceEq, Int.reduceNe, Nat.reduceLeDiff, Int.reducePow, Nat.reducePow, Nat.reduceLT, Nat.reduceSub, Nat.reduceMod, Nat.reduceDiv, slot_neg, slot_pos, T.ag_3, T.fo_59_10, T.fo_59_11, T.gf_25, T.gf_42, T.ib_3, T.ip_3, tup3]
    (refine CodeH.seq' (CodeH.of_vc [] hm (by kernel_rfl) ?_); simp (config := { dsimp := false, maxSteps := 10000000 }) (disch := omega) only [go_sem, reduceIte, Nat.reduceEqDiff, reduceCtorEq, Nat.reduceAdd, Nat.reduceMul, Int.reduceToNat, Int.reduceLE, Int.reduceLT, Int.reduceEq, Int.reduceNe, Nat.reduceLeDiff, Int.reducePow, Nat.reducePow, Nat.reduceLT, Nat.reduceSub, Nat.reduceMod, Nat.reduceDiv, slot_neg, slot_pos, T.ag_3, T.fo_59_10, T.fo_59_11, T.gf_25, T.gf_42, T.ib_3, T.ip_3, init_a, q0, q1])
    exact ⟨_, L, rfl, nilNum _, hR1', hI1, rfl, hU1⟩
  | true =>
    by_cases c3 : at_ < when
    · have c3' : (at_ < when) = True := eq_true c3
      simp (config := { dsimp := false, maxSteps := 10000000 }) (disch := omega) only [go_sem, reduceIte, Nat.reduceEqDiff, reduceCtorEq, Nat.reduceAdd, Nat.reduceMul, Int.reduceToNat, Int.reduceLE, Int.reduceLT, Int.reduceEq, Int.reduceNe, Nat.reduceLeDiff, Int.reducePow, Nat.reducePow, Nat.reduceLT, Nat.reduceSub, Nat.reduceMod, Nat.reduceDiv, slot_neg, slot_pos, T.ag_3, T.fo_59_10, T.fo_59_11, T.gf_25, T.gf_42, T.ib_3, T.ip_3, tup3]
      (refine CodeH.seq' (CodeH.of_vc [] hm (by kernel_rfl) ?_); simp (config := { dsimp := false, maxSteps := 10000000 }) (disch := omega) only [go_sem, reduceIte, Nat.reduceEqDiff, reduceCtorEq, Nat.reduceAdd, Nat.reduceMul, Int.reduceToNat, Int.reduceLE, Int.reduceLT, Int.reduceEq, Int.reduceNe, Nat.reduceLeDiff, Int.reducePow, Nat.reducePow, Nat.reduceLT, Nat.reduceSub, Nat.reduceMod, Nat.reduceDiv, slot_neg, slot_pos, T.ag_3, T.fo_59_10, T.fo_59_11, T.gf_25, T.gf_42, T.ib_3, T.ip_3, init_a, q0, q1, c3'])
      rw [if_neg (by simp; omega)]
      exact ⟨_, L, rfl, nilNum _, hR1', hI1, rfl, hU1⟩
    · have c3' : (at_ < when) = False := eq_false c3
      simp (config := { dsimp := false, maxSteps := 10000000 }) (disch := omega) only [go_sem, reduceIte, Nat.reduceEqDiff, reduceCtorEq, Nat.reduceAdd, Nat.reduceMul, Int.reduceToNat, Int.reduceLE, Int.reduceLT, Int.reduceEq, Int.reduceNe, Nat.reduceLeDiff, Int.reducePow, Nat.reducePow, Nat.reduceLT, Nat.reduceSub, Nat.reduceMod, Nat.reduceDiv, slot_neg, slot_pos, T.ag_3, T.fo_59_10, T.fo_59_11, T.gf_25, T.gf_42, T.ib_3, T.ip_3, tup3]
      (refine CodeH.seq' (CodeH.of_vc [] hm (by kernel_rfl) ?_); simp (config := { dsimp := false, maxSteps := 10000000 }) (disch := omega) only [go_sem, reduceIte, Nat.reduceEqDiff, reduceCtorEq, Nat.reduceAdd, Nat.reduceMul, Int.reduceToNat, Int.reduceLE, Int.reduceLT, Int.reduceEq, Int.reduceNe, Nat.reduceLeDiff, Int.reducePow, Nat.reducePow, Nat.reduceLT, Nat.reduceSub, Nat.reduceMod, Nat.reduceDiv, slot_neg, slot_pos, T.ag_3, T.fo_59_10, T.fo_59_11, T.gf_25, T.gf_42, T.ib_3, T.ip_3, init_a, q0, q1, c3'])
      have c4 : when ≤ at_ := by omega
      simp only [c4, and_self, if_true]
      cases lost with
      | true =>
        (refine CodeH.seq' (CodeH.of_vc [] hm (by kernel_rfl) ?_); simp (config := { dsimp := false, maxSteps := 10000000 }) (disch := omega) only [go_sem, reduceIte, Nat.reduceEqDiff, reduceCtorEq, Nat.reduceAdd, Nat.reduceMul, Int.reduceToNat, Int.reduceLE, Int.reduceLT, Int.reduceEq, Int.reduceNe, Nat.reduceLeDiff, Int.reducePow, Nat.reducePow, Nat.reduceLT, Nat.reduceSub, Nat.reduceMod, Nat.reduceDiv, slot_neg, slot_pos, T.ag_3, T.fo_59_10, T.fo_59_11, T.gf_25, T.gf_42, T.ib_3, T.ip_3, init_a, q0, q1])
        refine (rgive_ph H1 m D L { s with now := at_ } at_ hR1' hI1.ok hI1.waits hl ⟨by omega, by omega⟩).mono fun u H2 ⟨D2, f1, f2, f3, f4⟩ => ?_
        simp (config := { dsimp := false, maxSteps := 10000000 }) (disch := omega) only [go_sem, reduceIte, Nat.reduceEqDiff, reduceCtorEq, Nat.reduceAdd, Nat.reduceMul, Int.reduceToNat, Int.reduceLE, Int.reduceLT, Int.reduceEq, Int.reduceNe, Nat.reduceLeDiff, Int.reducePow, Nat.reducePow, Nat.reduceLT, Nat.reduceSub, Nat.reduceMod, Nat.reduceDiv, slot_neg, slot_pos, T.ag_3, T.fo_59_10, T.fo_59_11, T.gf_25, T.gf_42, T.ib_3, T.ip_3]
        exact ⟨u, _, rfl, f1.num, f3, hI1.give, by rw [List.length_map], hU1.trans f4 fun d hd => .inl hd⟩
      | false =>
        have w : IntKind.i64.wrap (s.tries + 1) = s.tries + 1 := i64wrap (by omega) (by omega)
        (refine CodeH.seq' (CodeH.of_vc [] hm (by kernel_rfl) ?_); simp (config := { dsimp := false, maxSteps := 10000000 }) (disch := omega) only [go_sem, reduceIte, Nat.reduceEqDiff, reduceCtorEq, Nat.reduceAdd, Nat.reduceMul, Int.reduceToNat, Int.reduceLE, Int.reduceLT, Int.reduceEq, Int.reduceNe, Nat.reduceLeDiff, Int.reducePow, Nat.reducePow, Nat.reduceLT, Nat.reduceSub, Nat.reduceMod, Nat.reduceDiv, slot_neg, slot_pos, T.ag_3, T.fo_59_10, T.fo_59_11, T.gf_25, T.gf_42, T.ib_3, T.ip_3, init_a, q0, q1])
        (refine CodeH.seq' (CodeH.of_vc [] hm (by kernel_rfl) ?_); simp (config := { dsimp := false, maxSteps := 10000000 }) (disch := omega) only [go_sem, reduceIte, Nat.reduceEqDiff, reduceCtorEq, Nat.reduceAdd, Nat.reduceMul, Int.reduceToNat, Int.reduceLE, Int.reduceLT, Int.reduceEq, Int.reduceNe, Nat.reduceLeDiff, Int.reducePow, Nat.reducePow, Nat.reduceLT, Nat.reduceSub, Nat.reduceMod, Nat.reduceDiv, slot_neg, slot_pos, T.ag_3, T.fo_59_10, T.fo_59_11, T.gf_25, T.gf_42, T.ib_3, T.ip_3, init_a, q0, q1, hg1, refC, w, minl])
        (refine CodeH.of_vc [] hm (by kernel_rfl) ?_; simp (config := { dsimp := false, maxSteps := 10000000 }) (disch := omega) only [go_sem, reduceIte, Nat.reduceEqDiff, reduceCtorEq, Nat.reduceAdd, Nat.reduceMul, Int.reduceToNat, Int.reduceLE, Int.reduceLT, Int.reduceEq, Int.reduceNe, Nat.reduceLeDiff, Int.reducePow, Nat.reducePow, Nat.reduceLT, Nat.reduceSub, Nat.reduceMod, Nat.reduceDiv, slot_neg, slot_pos, T.ag_3, T.fo_59_10, T.fo_59_11, T.gf_25, T.gf_42, T.ib_3, T.ip_3, init_a, q0, q1])
        refine ⟨_, L, rfl, nilNum _, RefR.put (s' := { s with now := at_, tries := min (s.tries + 1) 5 }) (Nat.lt_of_lt_of_le hmn hU1.1) hmD hO1, ⟨?_, hI1.waits, hI1.top, hI1.asc, hI1.past⟩, rfl, hU1.put (.inl (by simp))⟩
        have h9 := hI1.ok
        exact ⟨h9.len, h9.pk, h9.top, h9.best, h9.now, h9.smooth, h9.vary, h9.least, h9.last, h9.window, h9.mark, h9.since, h9.flight, by simp only; omega⟩
end Ph
