import Derived.Test.YtliblomkhapibaaL28
set_option maxRecDepth 100000
set_option maxHeartbeats 4000000
set_option linter.unusedSimpArgs false
set_option linter.unusedVariables false
namespace Ph
open Go Go.Proofs
attribute [local irreducible] Value.cells
attribute [local go_sem ↓] y_move y_assign y_pick y_nil y_bin y_un y_fa y_field y_ext y_ia y_ix y_slice y_build y_mf y_load y_len y_min y_max y_conv y_bs y_mk y_alloc y_box y_store y_clear y_app y_callf y_callt s_move s_assign s_pick s_nil s_bin s_un s_fa s_field s_ext s_ia s_ix s_slice s_conv s_build s_bs s_mf s_alloc s_box s_load s_store s_len s_clear s_min s_max s_app s_call q_call q_move q_assign q_pick q_nil q_bin q_un q_fa q_field q_ext q_ia q_ix q_slice q_conv q_build q_mf q_load q_len q_min q_max l_nil l_move l_assign l_pick l_nilc l_bin l_un l_fa l_field l_ext l_ia l_ix l_slice l_conv l_build l_mf l_load l_len l_min l_max l_call put_eq putN_eq o_nil o_plain o_gate v_nil v_plain v_gate vc_skip vc_region vc_seq vc_cond vc_block vc_loop vc_rf vc_exit vc_ret blk_normal blk_ret blk_exit on_normal on_ret on_exit vc_drawn draw_q s_mk l_bs l_mk l_alloc l_box l_store l_app l_clear pl_done pl_takeS pl_take pl_alt pl_stop one_plain one_gate
attribute [local go_sem] clear_nil clear_sl onAgg_a onTuple_t onFn_f onFn_y onFunc_f c_int c_nil c_sl c_str sl_sl sl_nil sl_str ix_str ix_agg n_nil n_sl n_str app_eq k_nil k_sl len_sl len_str upd_some upd_none ev_tmp ev_const ev_func rd_some gdst_eq otmp_t otmp_c get_put get_alloc next_put next_alloc get_app next_app init_a resV1 resV2 onPtr_ptr onBool_b onInt_i onSlice_s onSome_s onCells_c lett_eq gate_tt gate_tf gate_ff gate_ft gate_dt gate_df also_eq bin un minmax io_none io_some bo_none bo_some partOf List.getElem?_cons_zero List.getElem?_cons_succ List.getElem?_toArray Option.map_some Option.map_none Option.bind_some ne_eq not_true_eq_false not_false_eq_true false_implies true_implies and_true true_and and_self Bool.false_eq_true Nat.zero_add Nat.add_zero List.size_toArray List.length_cons List.length_nil List.map_toArray List.map_cons List.map_nil Array.getD_eq_getD_getElem? Option.getD_some Bool.not_true Bool.not_false Bool.not_eq_true Option.isNone_some Option.isNone_none List.append_toArray List.append_nil List.nil_append List.cons_append decide_true decide_false in_nil in_cons Bool.and_false Bool.and_true Bool.or_false Bool.true_or Bool.false_or get_mask next_mask get_unmask next_unmask ac_move ac_assign ac_pick ac_nil ac_bin ac_un ac_fa ac_field ac_ext ac_ia ac_ix ac_slice ac_build ac_mf ac_call ac_load ac_conv accP_p accS_s accS_n accS_i accS_t fixed_ro fixed_lock fixed_own get_ro next_ro lock_live' lock_cells List.mem_cons List.not_mem_nil or_false false_or or_true true_or and_false false_and IntKind.bits Int.natCast_zero Int.natCast_one size_str data_str list_str mk_str ext_str app_str bytes_str w_byte w_byteu Int.toNat_natCast Int.toNat_zero Int.toNat_one Nat.sub_zero ge_iff_le gt_iff_lt Nat.le_refl Int.le_refl List.drop_zero Int.ofNat_eq_natCast Int.natCast_nonneg Int.sub_zero oc_int oc_bool oc_str oc_ptr oc_sl oc_map oc_func List.set_cons_zero List.set_cons_succ Nat.mul_one List.all_cons List.all_nil Bool.and_self res_nil res_tmp res_cell tup_one tup_two tup_nil fill_nil repl_zero cells_agg List.append_eq List.toList_toArray Nat.zero_mul Nat.one_mul repl_one repl_two onSome_build fill_cons onSome_lit splice_eq cells_int cells_bool cells_str cells_ptr cells_sl cells_map cells_func loadK_n loadK_s load_k storeK_n storeK_s store_k all_arr List.take_zero List.take_succ_cons List.drop_succ_cons List.take_nil List.drop_nil lk_own lk_ro lk_lock lk_lk fixed_lk gate_nt gate_nf gate3_b gate3_u undef Bool.true_and Bool.false_and nx_l nx_r nx_lt put_put resV0
/-! LossEvents: the document's Acked. -/
def RAP (h : Heap) (m : Nat) (D : List Nat) (L : List RP) (r : St × List Int × List Int × Int) (u : Value) (H : Heap) : Prop :=
  ∃ v1 v2 L', u = .tuple #[v1, v2, .int .i64 r.2.2.2] ∧ NumR H v1 r.2.1 ∧ NumR H v2 r.2.2.1 ∧ RefR H m D L' r.1 ∧ RI L' r.1 ∧ L'.length = L.length ∧ Upd h H (m :: D)
theorem OwnRow.num' {H H' : Heap} {v : Value} {D F : List Nat} {l : List Int} (hO : OwnRow intE H v D l) (hu : Upd H H' F) (hF : ∀ d ∈ D, d ∉ F) : NumR H' v l := (hO.upd hu hF).num
theorem sample_w2 {A B t M : Int} (hA : 0 ≤ A ∧ A ≤ 1099511627776) (hB : 0 ≤ B ∧ B ≤ 1099511627776) (ht : 0 ≤ t ∧ t ≤ 1099511627776) (hM : 0 ≤ M ∧ M ≤ 1099511627776) :
    IntKind.i64.wrap (A - t) = A - t ∧ IntKind.i64.wrap (0 - (A - t)) = 0 - (A - t) ∧ IntKind.i64.wrap (3 * B) = 3 * B ∧ IntKind.i64.wrap (3 * B + M) = 3 * B + M ∧
    IntKind.i64.wrap ((3 * B + M).tdiv 4) = (3 * B + M) / 4 ∧ IntKind.i64.wrap (7 * A) = 7 * A ∧ IntKind.i64.wrap (7 * A + t) = 7 * A + t ∧ IntKind.i64.wrap ((7 * A + t).tdiv 8) = (7 * A + t) / 8 := by
  refine ⟨i64wrap (by omega) (by omega), i64wrap (by omega) (by omega), i64wrap (by omega) (by omega), i64wrap (by omega) (by omega), ?_, i64wrap (by omega) (by omega), i64wrap (by omega) (by omega), ?_⟩
  · rw [tdiv_pos (by omega)]; exact i64wrap (by omega) (by omega)
  · rw [tdiv_pos (by omega)]; exact i64wrap (by omega) (by omega)
theorem racked_ph (h : Heap) (m : Nat) (D : List Nat) (L : List RP) (s : St) (v : Value) (l : List Sp) (delay at_ : Int) (hR : RefR h m D L s) (hI : RI L s) (hl : L.length ≤ 100000) (hr : RowIn spE h v l)
    (hlt : ∀ A n st, v = .slice (some A) n st → A.block < h.next ∧ A.block ≠ m ∧ A.block ∉ D) (hll : l.length < 1000000) :
    @CallsH Try.prog 22 #[.pointer (some ⟨m, 0, none⟩), v, .int .i64 delay, .int .i64 at_] h ⟨fun u H => RAP h m D L (ackS s l delay at_) u H⟩ := by
  have hR0 := hR
  have hlD := hR.lt
  obtain ⟨hmn, hmD, w, hg, hO⟩ := hR
  obtain ⟨Av, stv, ev⟩ := hr.form
  have bn := hI.ok.now
  have fin0 : ∀ e : Int, ackS s l delay at_ = (s, [], [], e) → RAP h m D L (ackS s l delay at_) (.tuple #[.slice none 0 0, .slice none 0 0, .int .i64 e]) h := fun e he => by
    rw [he]; exact ⟨_, _, L, rfl, nilNum _, nilNum _, hR0, hI, rfl, Upd.refl _ _⟩
  have bad : ¬ (s.now ≤ at_ ∧ at_ ≤ 1099511627776 ∧ 0 ≤ delay ∧ delay ≤ 1099511627776) → ackS s l delay at_ = (s, [], [], 1) := fun hn => by
    unfold ackS
    rw [if_neg]
    unfold timeOk
    simp only [decide_eq_true_eq]
    omega
  (refine calls_of_codeR (rs := [.tmp 8, .tmp 9, .tmp 10]) Try.func22 rfl rfl (by simp) ?_)
  (refine CodeH.seq' (CodeH.of_vc [] hm (by kernel_rfl) ?_); simp (config := { dsimp := false, maxSteps := 10000000 }) (disch := omega) only [go_sem, reduceIte, Nat.reduceEqDiff, reduceCtorEq, Nat.reduceAdd, Nat.reduceMul, Int.reduceToNat, Int.reduceLE, Int.reduceLT, Int.reduceEq, Int.reduceNe, Nat.reduceLeDiff, Int.reducePow, Nat.reducePow, Nat.reduceLT, Nat.reduceSub, Nat.reduceMod, Nat.reduceDiv, slot_neg, slot_pos, T.ag_3, T.ag_4, T.ag_57, T.ag_78, T.eb_22, T.es_39, T.es_57, T.ez_22, T.fo_42_0, T.fo_42_1, T.fo_59_0, T.fo_59_1, T.fo_59_10, T.fo_59_11, T.fo_59_2, T.fo_59_3, T.fo_59_4, T.fo_59_5, T.fo_59_6, T.fo_59_7, T.fo_59_8, T.fo_59_9, T.fo_78_0, T.fo_78_1, T.fo_78_2, T.fo_78_3, T.fo_78_4, T.gf_40, T.gf_41, T.gf_42, T.ib_3, T.ii_22, T.ii_39, T.ii_57, T.ip_3, T.pl_78, T.s8_22, T.s8_39, T.s8_57, T.sl_22, T.sl_39, T.sl_57, T.st_22, T.st_39, T.st_57, T.un_22, T.un_39, T.un_57, T.zo_78, init_a])
  by_cases c1 : at_ < s.now
  · have c1' : (at_ < s.now) = True := eq_true c1
    (refine CodeH.seq' (CodeH.of_vc [] hm (by kernel_rfl) ?_); simp (config := { dsimp := false, maxSteps := 10000000 }) (disch := omega) only [go_sem, reduceIte, Nat.reduceEqDiff, reduceCtorEq, Nat.reduceAdd, Nat.reduceMul, Int.reduceToNat, Int.reduceLE, Int.reduceLT, Int.reduceEq, Int.reduceNe, Nat.reduceLeDiff, Int.reducePow, Nat.reducePow, Nat.reduceLT, Nat.reduceSub, Nat.reduceMod, Nat.reduceDiv, slot_neg, slot_pos, T.ag_3, T.ag_4, T.ag_57, T.ag_78, T.eb_22, T.es_39, T.es_57, T.ez_22, T.fo_42_0, T.fo_42_1, T.fo_59_0, T.fo_59_1, T.fo_59_10, T.fo_59_11, T.fo_59_2, T.fo_59_3, T.fo_59_4, T.fo_59_5, T.fo_59_6, T.fo_59_7, T.fo_59_8, T.fo_59_9, T.fo_78_0, T.fo_78_1, T.fo_78_2, T.fo_78_3, T.fo_78_4, T.gf_40, T.gf_41, T.gf_42, T.ib_3, T.ii_22, T.ii_39, T.ii_57, T.ip_3, T.pl_78, T.s8_22, T.s8_39, T.s8_57, T.sl_22, T.sl_39, T.sl_57, T.st_22, T.st_39, T.st_57, T.un_22, T.un_39, T.un_57, T.zo_78, init_a, hg, refC, c1'])
    exact fin0 1 (bad (by omega))
  have c1' : (at_ < s.now) = False := eq_false c1
  by_cases c2 : 1099511627776 < at_
  · have c2' : (1099511627776 < at_) = True := eq_true c2
    (refine CodeH.seq' (CodeH.of_vc [] hm (by kernel_rfl) ?_); simp (config := { dsimp := false, maxSteps := 10000000 }) (disch := omega) only [go_sem, reduceIte, Nat.reduceEqDiff, reduceCtorEq, Nat.reduceAdd, Nat.reduceMul, Int.reduceToNat, Int.reduceLE, Int.reduceLT, Int.reduceEq, Int.reduceNe, Nat.reduceLeDiff, Int.reducePow, Nat.reducePow, Nat.reduceLT, Nat.reduceSub, Nat.reduceMod, Nat.reduceDiv, slot_neg, slot_pos, T.ag_3, T.ag_4, T.ag_57, T.ag_78, T.eb_22, T.es_39, T.es_57, T.ez_22, T.fo_42_0, T.fo_42_1, T.fo_59_0, T.fo_59_1, T.fo_59_10, T.fo_59_11, T.fo_59_2, T.fo_59_3, T.fo_59_4, T.fo_59_5, T.fo_59_6, T.fo_59_7, T.fo_59_8, T.fo_59_9, T.fo_78_0, T.fo_78_1, T.fo_78_2, T.fo_78_3, T.fo_78_4, T.gf_40, T.gf_41, T.gf_42, T.ib_3, T.ii_22, T.ii_39, T.ii_57, T.ip_3, T.pl_78, T.s8_22, T.s8_39, T.s8_57, T.sl_22, T.sl_39, T.sl_57, T.st_22, T.st_39, T.st_57, T.un_22, T.un_39, T.un_57, T.zo_78, init_a, hg, refC, c1', c2'])
    exact fin0 1 (bad (by omega))
  have c2' : (1099511627776 < at_) = False := eq_false c2
  by_cases c3 : delay < 0
  · have c3' : (delay < 0) = True := eq_true c3
    (refine CodeH.seq' (CodeH.of_vc [] hm (by kernel_rfl) ?_); simp (config := { dsimp := false, maxSteps := 10000000 }) (disch := omega) only [go_sem, reduceIte, Nat.reduceEqDiff, reduceCtorEq, Nat.reduceAdd, Nat.reduceMul, Int.reduceToNat, Int.reduceLE, Int.reduceLT, Int.reduceEq, Int.reduceNe, Nat.reduceLeDiff, Int.reducePow, Nat.reducePow, Nat.reduceLT, Nat.reduceSub, Nat.reduceMod, Nat.reduceDiv, slot_neg, slot_pos, T.ag_3, T.ag_4, T.ag_57, T.ag_78, T.eb_22, T.es_39, T.es_57, T.ez_22, T.fo_42_0, T.fo_42_1, T.fo_59_0, T.fo_59_1, T.fo_59_10, T.fo_59_11, T.fo_59_2, T.fo_59_3, T.fo_59_4, T.fo_59_5, T.fo_59_6, T.fo_59_7, T.fo_59_8, T.fo_59_9, T.fo_78_0, T.fo_78_1, T.fo_78_2, T.fo_78_3, T.fo_78_4, T.gf_40, T.gf_41, T.gf_42, T.ib_3, T.ii_22, T.ii_39, T.ii_57, T.ip_3, T.pl_78, T.s8_22, T.s8_39, T.s8_57, T.sl_22, T.sl_39, T.sl_57, T.st_22, T.st_39, T.st_57, T.un_22, T.un_39, T.un_57, T.zo_78, init_a, hg, refC, c1', c2', c3'])
    exact fin0 1 (bad (by omega))
  have c3' : (delay < 0) = False := eq_false c3
  by_cases c4 : 1099511627776 < delay
  · have c4' : (1099511627776 < delay) = True := eq_true c4
    (refine CodeH.seq' (CodeH.of_vc [] hm (by kernel_rfl) ?_); simp (config := { dsimp := false, maxSteps := 10000000 }) (disch := omega) only [go_sem, reduceIte, Nat.reduceEqDiff, reduceCtorEq, Nat.reduceAdd, Nat.reduceMul, Int.reduceToNat, Int.reduceLE, Int.reduceLT, Int.reduceEq, Int.reduceNe, Nat.reduceLeDiff, Int.reducePow, Nat.reducePow, Nat.reduceLT, Nat.reduceSub, Nat.reduceMod, Nat.reduceDiv, slot_neg, slot_pos, T.ag_3, T.ag_4, T.ag_57, T.ag_78, T.eb_22, T.es_39, T.es_57, T.ez_22, T.fo_42_0, T.fo_42_1, T.fo_59_0, T.fo_59_1, T.fo_59_10, T.fo_59_11, T.fo_59_2, T.fo_59_3, T.fo_59_4, T.fo_59_5, T.fo_59_6, T.fo_59_7, T.fo_59_8, T.fo_59_9, T.fo_78_0, T.fo_78_1, T.fo_78_2, T.fo_78_3, T.fo_78_4, T.gf_40, T.gf_41, T.gf_42, T.ib_3, T.ii_22, T.ii_39, T.ii_57, T.ip_3, T.pl_78, T.s8_22, T.s8_39, T.s8_57, T.sl_22, T.sl_39, T.sl_57, T.st_22, T.st_39, T.st_57, T.un_22, T.un_39, T.un_57, T.zo_78, init_a, hg, refC, c1', c2', c3', c4'])
    exact fin0 1 (bad (by omega))
  have c4' : (1099511627776 < delay) = False := eq_false c4
  have hto : timeOk s at_ = true ∧ 0 ≤ delay ∧ delay ≤ 1099511627776 := ⟨decide_eq_true ⟨by omega, by omega⟩, by omega, by omega⟩
  have hchk : checkS s l ≠ 0 → ackS s l delay at_ = (s, [], [], checkS s l) := fun hn => by
    unfold ackS; rw [if_pos hto, if_neg hn]
  (refine CodeH.seq' (CodeH.of_vc [] hm (by kernel_rfl) ?_); simp (config := { dsimp := false, maxSteps := 10000000 }) (disch := omega) only [go_sem, reduceIte, Nat.reduceEqDiff, reduceCtorEq, Nat.reduceAdd, Nat.reduceMul, Int.reduceToNat, Int.reduceLE, Int.reduceLT, Int.reduceEq, Int.reduceNe, Nat.reduceLeDiff, Int.reducePow, Nat.reducePow, Nat.reduceLT, Nat.reduceSub, Nat.reduceMod, Nat.reduceDiv, slot_neg, slot_pos, T.ag_3, T.ag_4, T.ag_57, T.ag_78, T.eb_22, T.es_39, T.es_57, T.ez_22, T.fo_42_0, T.fo_42_1, T.fo_59_0, T.fo_59_1, T.fo_59_10, T.fo_59_11, T.fo_59_2, T.fo_59_3, T.fo_59_4, T.fo_59_5, T.fo_59_6, T.fo_59_7, T.fo_59_8, T.fo_59_9, T.fo_78_0, T.fo_78_1, T.fo_78_2, T.fo_78_3, T.fo_78_4, T.gf_40, T.gf_41, T.gf_42, T.ib_3, T.ii_22, T.ii_39, T.ii_57, T.ip_3, T.pl_78, T.s8_22, T.s8_39, T.s8_57, T.sl_22, T.sl_39, T.sl_57, T.st_22, T.st_39, T.st_57, T.un_22, T.un_39, T.un_57, T.zo_78, init_a, hg, refC, c1', c2', c3', c4'])
  refine CodeH.seq (fun r H => h = H ∧ l.any badSp = false ∧ r 0 = .pointer (some ⟨m, 0, none⟩) ∧ r 1 = v ∧ r 2 = .int .i64 delay ∧ r 3 = .int .i64 at_) ?_ ?_
  · (refine CodeH.of_vc [] hm (by kernel_rfl) ?_; simp (config := { dsimp := false, maxSteps := 10000000 }) (disch := omega) only [go_sem, reduceIte, Nat.reduceEqDiff, reduceCtorEq, Nat.reduceAdd, Nat.reduceMul, Int.reduceToNat, Int.reduceLE, Int.reduceLT, Int.reduceEq, Int.reduceNe, Nat.reduceLeDiff, Int.reducePow, Nat.reducePow, Nat.reduceLT, Nat.reduceSub, Nat.reduceMod, Nat.reduceDiv, slot_neg, slot_pos, T.ag_3, T.ag_4, T.ag_57, T.ag_78, T.eb_22, T.es_39, T.es_57, T.ez_22, T.fo_42_0, T.fo_42_1, T.fo_59_0, T.fo_59_1, T.fo_59_10, T.fo_59_11, T.fo_59_2, T.fo_59_3, T.fo_59_4, T.fo_59_5, T.fo_59_6, T.fo_59_7, T.fo_59_8, T.fo_59_9, T.fo_78_0, T.fo_78_1, T.fo_78_2, T.fo_78_3, T.fo_78_4, T.gf_40, T.gf_41, T.gf_42, T.ib_3, T.ii_22, T.ii_39, T.ii_57, T.ip_3, T.pl_78, T.s8_22, T.s8_39, T.s8_57, T.sl_22, T.sl_39, T.sl_57, T.st_22, T.st_39, T.st_57, T.un_22, T.un_39, T.un_57, T.zo_78, init_a])
    refine loop_intro [] hm (fun r H => h = H ∧ ∃ i : Nat, i ≤ l.length ∧ (l.take i).any badSp = false ∧ r 0 = .pointer (some ⟨m, 0, none⟩) ∧ r 1 = v ∧ r 2 = .int .i64 delay ∧ r 3 = .int .i64 at_ ∧ r 11 = .int .i64 i) (fun r _ => match r 11 with | .int _ i => l.length - i.toNat | _ => 0) ?_ ?_
    · exact ⟨rfl, 0, by omega, rfl, by simp [upd, initR], by simp [upd, initR], by simp [upd, initR], by simp [upd, initR], by simp [upd]⟩
    · rintro r H ⟨hH, i, hi, hany, q0, q1, q2, q3, q11⟩
      subst hH
      by_cases hil : i < l.length
      · have hlt' : ((i : Int) < (l.length : Int)) = True := eq_true (by omega)
        have hx : l[i]? = some l[i] := List.getElem?_eq_getElem hil
        rcases id hr with ⟨_, hnil⟩ | ⟨q, off, vs, ob, hv, hq, hRV⟩
        · rw [hnil] at hil; simp at hil
        have y1 : vs[off + i * 2]? = some (.int .i64 l[i].fr) := hRV.cell hx (j := 0) (by decide)
        have y2 : vs[off + i * 2 + 1]? = some (.int .i64 l[i].to) := hRV.cell hx (j := 1) (by decide)
        have hta := take_next hx
        have hmem : l[i] ∈ l := List.getElem_mem _
        generalize l[i] = x at *
        have hK : spE.k = 2 := rfl
        have w1 : IntKind.i64.wrap ((i : Int) + 1) = ((i + 1 : Nat) : Int) := by rw [i64wrap] <;> omega
        have hbad : (x.fr > x.to ∨ x.fr < 0) → ackS s l delay at_ = (s, [], [], 1) := fun hb => by
          have h9 : checkS s l = 1 := by unfold checkS; rw [if_pos (List.any_eq_true.2 ⟨x, hmem, decide_eq_true hb⟩)]
          rw [hchk (by rw [h9]; decide), h9]
        by_cases d1 : x.to < x.fr
        · have d1' : (x.to < x.fr) = True := eq_true d1
          simp (config := { dsimp := false, maxSteps := 10000000 }) (disch := omega) only [go_sem, reduceIte, Nat.reduceEqDiff, reduceCtorEq, Nat.reduceAdd, Nat.reduceMul, Int.reduceToNat, Int.reduceLE, Int.reduceLT, Int.reduceEq, Int.reduceNe, Nat.reduceLeDiff, Int.reducePow, Nat.reducePow, Nat.reduceLT, Nat.reduceSub, Nat.reduceMod, Nat.reduceDiv, slot_neg, slot_pos, T.ag_3, T.ag_4, T.ag_57, T.ag_78, T.eb_22, T.es_39, T.es_57, T.ez_22, T.fo_42_0, T.fo_42_1, T.fo_59_0, T.fo_59_1, T.fo_59_10, T.fo_59_11, T.fo_59_2, T.fo_59_3, T.fo_59_4, T.fo_59_5, T.fo_59_6, T.fo_59_7, T.fo_59_8, T.fo_59_9, T.fo_78_0, T.fo_78_1, T.fo_78_2, T.fo_78_3, T.fo_78_4, T.gf_40, T.gf_41, T.gf_42, T.ib_3, T.ii_22, T.ii_39, T.ii_57, T.ip_3, T.pl_78, T.s8_22, T.s8_39, T.s8_57, T.sl_22, T.sl_39, T.sl_57, T.st_22, T.st_39, T.st_57, T.un_22, T.un_39, T.un_57, T.zo_78, q0, q1, q2, q3, q11, hv, hlt', hq, y1, y2, hK, d1']
          exact fin0 1 (hbad (.inl d1))
        · have d1' : (x.to < x.fr) = False := eq_false d1
          by_cases d2 : x.fr < 0
          · have d2' : (x.fr < 0) = True := eq_true d2
            simp (config := { dsimp := false, maxSteps := 10000000 }) (disch := omega) only [go_sem, reduceIte, Nat.reduceEqDiff, reduceCtorEq, Nat.reduceAdd, Nat.reduceMul, Int.reduceToNat, Int.reduceLE, Int.reduceLT, Int.reduceEq, Int.reduceNe, Nat.reduceLeDiff, Int.reducePow, Nat.reducePow, Nat.reduceLT, Nat.reduceSub, Nat.reduceMod, Nat.reduceDiv, slot_neg, slot_pos, T.ag_3, T.ag_4, T.ag_57, T.ag_78, T.eb_22, T.es_39, T.es_57, T.ez_22, T.fo_42_0, T.fo_42_1, T.fo_59_0, T.fo_59_1, T.fo_59_10, T.fo_59_11, T.fo_59_2, T.fo_59_3, T.fo_59_4, T.fo_59_5, T.fo_59_6, T.fo_59_7, T.fo_59_8, T.fo_59_9, T.fo_78_0, T.fo_78_1, T.fo_78_2, T.fo_78_3, T.fo_78_4, T.gf_40, T.gf_41, T.gf_42, T.ib_3, T.ii_22, T.ii_39, T.ii_57, T.ip_3, T.pl_78, T.s8_22, T.s8_39, T.s8_57, T.sl_22, T.sl_39, T.sl_57, T.st_22, T.st_39, T.st_57, T.un_22, T.un_39, T.un_57, T.zo_78, q0, q1, q2, q3, q11, hv, hlt', hq, y1, y2, hK, d1', d2']
            exact fin0 1 (hbad (.inr d2))
          · have d2' : (x.fr < 0) = False := eq_false d2
            simp (config := { dsimp := false, maxSteps := 10000000 }) (disch := omega) only [go_sem, reduceIte, Nat.reduceEqDiff, reduceCtorEq, Nat.reduceAdd, Nat.reduceMul, Int.reduceToNat, Int.reduceLE, Int.reduceLT, Int.reduceEq, Int.reduceNe, Nat.reduceLeDiff, Int.reducePow, Nat.reducePow, Nat.reduceLT, Nat.reduceSub, Nat.reduceMod, Nat.reduceDiv, slot_neg, slot_pos, T.ag_3, T.ag_4, T.ag_57, T.ag_78, T.eb_22, T.es_39, T.es_57, T.ez_22, T.fo_42_0, T.fo_42_1, T.fo_59_0, T.fo_59_1, T.fo_59_10, T.fo_59_11, T.fo_59_2, T.fo_59_3, T.fo_59_4, T.fo_59_5, T.fo_59_6, T.fo_59_7, T.fo_59_8, T.fo_59_9, T.fo_78_0, T.fo_78_1, T.fo_78_2, T.fo_78_3, T.fo_78_4, T.gf_40, T.gf_41, T.gf_42, T.ib_3, T.ii_22, T.ii_39, T.ii_57, T.ip_3, T.pl_78, T.s8_22, T.s8_39, T.s8_57, T.sl_22, T.sl_39, T.sl_57, T.st_22, T.st_39, T.st_57, T.un_22, T.un_39, T.un_57, T.zo_78, q0, q1, q2, q3, q11, hv, hlt', hq, y1, y2, hK, d1', d2', w1]
            exact ⟨⟨i + 1, hil, by rw [hta, List.any_append, hany]; simp [badSp]; omega, rfl⟩, by omega⟩
      · have hlt' : ((i : Int) < (l.length : Int)) = False := eq_false (by omega)
        obtain rfl : i = l.length := by omega
        rw [List.take_length] at hany
        simp (config := { dsimp := false, maxSteps := 10000000 }) (disch := omega) only [go_sem, reduceIte, Nat.reduceEqDiff, reduceCtorEq, Nat.reduceAdd, Nat.reduceMul, Int.reduceToNat, Int.reduceLE, Int.reduceLT, Int.reduceEq, Int.reduceNe, Nat.reduceLeDiff, Int.reducePow, Nat.reducePow, Nat.reduceLT, Nat.reduceSub, Nat.reduceMod, Nat.reduceDiv, slot_neg, slot_pos, T.ag_3, T.ag_4, T.ag_57, T.ag_78, T.eb_22, T.es_39, T.es_57, T.ez_22, T.fo_42_0, T.fo_42_1, T.fo_59_0, T.fo_59_1, T.fo_59_10, T.fo_59_11, T.fo_59_2, T.fo_59_3, T.fo_59_4, T.fo_59_5, T.fo_59_6, T.fo_59_7, T.fo_59_8, T.fo_59_9, T.fo_78_0, T.fo_78_1, T.fo_78_2, T.fo_78_3, T.fo_78_4, T.gf_40, T.gf_41, T.gf_42, T.ib_3, T.ii_22, T.ii_39, T.ii_57, T.ip_3, T.pl_78, T.s8_22, T.s8_39, T.s8_57, T.sl_22, T.sl_39, T.sl_57, T.st_22, T.st_39, T.st_57, T.un_22, T.un_39, T.un_57, T.zo_78, q0, q1, q2, q3, q11, ev, hlt']
        exact hany
  rintro r H ⟨hH, hnb, q0, q1, q2, q3⟩
  subst hH
  refine CodeH.seq (fun r H => h = H ∧ l.any (farSp s.top) = false ∧ r 0 = .pointer (some ⟨m, 0, none⟩) ∧ r 1 = v ∧ r 2 = .int .i64 delay ∧ r 3 = .int .i64 at_) ?_ ?_
  · (refine CodeH.of_vc [] hm (by kernel_rfl) ?_; simp (config := { dsimp := false, maxSteps := 10000000 }) (disch := omega) only [go_sem, reduceIte, Nat.reduceEqDiff, reduceCtorEq, Nat.reduceAdd, Nat.reduceMul, Int.reduceToNat, Int.reduceLE, Int.reduceLT, Int.reduceEq, Int.reduceNe, Nat.reduceLeDiff, Int.reducePow, Nat.reducePow, Nat.reduceLT, Nat.reduceSub, Nat.reduceMod, Nat.reduceDiv, slot_neg, slot_pos, T.ag_3, T.ag_4, T.ag_57, T.ag_78, T.eb_22, T.es_39, T.es_57, T.ez_22, T.fo_42_0, T.fo_42_1, T.fo_59_0, T.fo_59_1, T.fo_59_10, T.fo_59_11, T.fo_59_2, T.fo_59_3, T.fo_59_4, T.fo_59_5, T.fo_59_6, T.fo_59_7, T.fo_59_8, T.fo_59_9, T.fo_78_0, T.fo_78_1, T.fo_78_2, T.fo_78_3, T.fo_78_4, T.gf_40, T.gf_41, T.gf_42, T.ib_3, T.ii_22, T.ii_39, T.ii_57, T.ip_3, T.pl_78, T.s8_22, T.s8_39, T.s8_57, T.sl_22, T.sl_39, T.sl_57, T.st_22, T.st_39, T.st_57, T.un_22, T.un_39, T.un_57, T.zo_78, init_a])
    refine loop_intro [] hm (fun r H => h = H ∧ ∃ i : Nat, i ≤ l.length ∧ (l.take i).any (farSp s.top) = false ∧ r 0 = .pointer (some ⟨m, 0, none⟩) ∧ r 1 = v ∧ r 2 = .int .i64 delay ∧ r 3 = .int .i64 at_ ∧ r 12 = .int .i64 i) (fun r _ => match r 12 with | .int _ i => l.length - i.toNat | _ => 0) ?_ ?_
    · exact ⟨rfl, 0, by omega, rfl, by simp [upd, q0], by simp [upd, q1], by simp [upd, q2], by simp [upd, q3], by simp [upd]⟩
    · rintro r H ⟨hH, i, hi, hany, q0, q1, q2, q3, q12⟩
      subst hH
      by_cases hil : i < l.length
      · have hlt' : ((i : Int) < (l.length : Int)) = True := eq_true (by omega)
        have hx : l[i]? = some l[i] := List.getElem?_eq_getElem hil
        rcases id hr with ⟨_, hnil⟩ | ⟨q, off, vs, ob, hv, hq, hRV⟩
        · rw [hnil] at hil; simp at hil
        have y2 : vs[off + i * 2 + 1]? = some (.int .i64 l[i].to) := hRV.cell hx (j := 1) (by decide)
        have hta := take_next hx
        have hmem : l[i] ∈ l := List.getElem_mem _
        generalize l[i] = x at *
        have hK : spE.k = 2 := rfl
        have w1 : IntKind.i64.wrap ((i : Int) + 1) = ((i + 1 : Nat) : Int) := by rw [i64wrap] <;> omega
        simp (config := { dsimp := false, maxSteps := 10000000 }) (disch := omega) only [go_sem, reduceIte, Nat.reduceEqDiff, reduceCtorEq, Nat.reduceAdd, Nat.reduceMul, Int.reduceToNat, Int.reduceLE, Int.reduceLT, Int.reduceEq, Int.reduceNe, Nat.reduceLeDiff, Int.reducePow, Nat.reducePow, Nat.reduceLT, Nat.reduceSub, Nat.reduceMod, Nat.reduceDiv, slot_neg, slot_pos, T.ag_3, T.ag_4, T.ag_57, T.ag_78, T.eb_22, T.es_39, T.es_57, T.ez_22, T.fo_42_0, T.fo_42_1, T.fo_59_0, T.fo_59_1, T.fo_59_10, T.fo_59_11, T.fo_59_2, T.fo_59_3, T.fo_59_4, T.fo_59_5, T.fo_59_6, T.fo_59_7, T.fo_59_8, T.fo_59_9, T.fo_78_0, T.fo_78_1, T.fo_78_2, T.fo_78_3, T.fo_78_4, T.gf_40, T.gf_41, T.gf_42, T.ib_3, T.ii_22, T.ii_39, T.ii_57, T.ip_3, T.pl_78, T.s8_22, T.s8_39, T.s8_57, T.sl_22, T.sl_39, T.sl_57, T.st_22, T.st_39, T.st_57, T.un_22, T.un_39, T.un_57, T.zo_78, q0, q1, q2, q3, q12, hv, hlt', hq, y2, hK]
        refine ⟨.int .i64 s.top, rfl, by rw [hI.top]; exact rtop_ph _ m L s hR0.view.ro hl, ?_⟩
        by_cases d1 : s.top < x.to
        · have d1' : (s.top < x.to) = True := eq_true d1
          simp (config := { dsimp := false, maxSteps := 10000000 }) (disch := omega) only [go_sem, reduceIte, Nat.reduceEqDiff, reduceCtorEq, Nat.reduceAdd, Nat.reduceMul, Int.reduceToNat, Int.reduceLE, Int.reduceLT, Int.reduceEq, Int.reduceNe, Nat.reduceLeDiff, Int.reducePow, Nat.reducePow, Nat.reduceLT, Nat.reduceSub, Nat.reduceMod, Nat.reduceDiv, slot_neg, slot_pos, T.ag_3, T.ag_4, T.ag_57, T.ag_78, T.eb_22, T.es_39, T.es_57, T.ez_22, T.fo_42_0, T.fo_42_1, T.fo_59_0, T.fo_59_1, T.fo_59_10, T.fo_59_11, T.fo_59_2, T.fo_59_3, T.fo_59_4, T.fo_59_5, T.fo_59_6, T.fo_59_7, T.fo_59_8, T.fo_59_9, T.fo_78_0, T.fo_78_1, T.fo_78_2, T.fo_78_3, T.fo_78_4, T.gf_40, T.gf_41, T.gf_42, T.ib_3, T.ii_22, T.ii_39, T.ii_57, T.ip_3, T.pl_78, T.s8_22, T.s8_39, T.s8_57, T.sl_22, T.sl_39, T.sl_57, T.st_22, T.st_39, T.st_57, T.un_22, T.un_39, T.un_57, T.zo_78, q0, q1, q2, q3, q12, hv, hlt', hq, y2, hK, d1']
          have h9 : checkS s l = 7 := by unfold checkS; rw [hnb, if_neg (by decide), if_pos (List.any_eq_true.2 ⟨x, hmem, decide_eq_true d1⟩)]
          exact fin0 7 (by rw [hchk (by rw [h9]; decide), h9])
        · have d1' : (s.top < x.to) = False := eq_false d1
          simp (config := { dsimp := false, maxSteps := 10000000 }) (disch := omega) only [go_sem, reduceIte, Nat.reduceEqDiff, reduceCtorEq, Nat.reduceAdd, Nat.reduceMul, Int.reduceToNat, Int.reduceLE, Int.reduceLT, Int.reduceEq, Int.reduceNe, Nat.reduceLeDiff, Int.reducePow, Nat.reducePow, Nat.reduceLT, Nat.reduceSub, Nat.reduceMod, Nat.reduceDiv, slot_neg, slot_pos, T.ag_3, T.ag_4, T.ag_57, T.ag_78, T.eb_22, T.es_39, T.es_57, T.ez_22, T.fo_42_0, T.fo_42_1, T.fo_59_0, T.fo_59_1, T.fo_59_10, T.fo_59_11, T.fo_59_2, T.fo_59_3, T.fo_59_4, T.fo_59_5, T.fo_59_6, T.fo_59_7, T.fo_59_8, T.fo_59_9, T.fo_78_0, T.fo_78_1, T.fo_78_2, T.fo_78_3, T.fo_78_4, T.gf_40, T.gf_41, T.gf_42, T.ib_3, T.ii_22, T.ii_39, T.ii_57, T.ip_3, T.pl_78, T.s8_22, T.s8_39, T.s8_57, T.sl_22, T.sl_39, T.sl_57, T.st_22, T.st_39, T.st_57, T.un_22, T.un_39, T.un_57, T.zo_78, q0, q1, q2, q3, q12, hv, hlt', hq, y2, hK, d1', w1]
          exact ⟨⟨i + 1, hil, by rw [hta, List.any_append, hany]; simp [farSp]; omega, rfl⟩, by omega⟩
      · have hlt' : ((i : Int) < (l.length : Int)) = False := eq_false (by omega)
        obtain rfl : i = l.length := by omega
        rw [List.take_length] at hany
        simp (config := { dsimp := false, maxSteps := 10000000 }) (disch := omega) only [go_sem, reduceIte, Nat.reduceEqDiff, reduceCtorEq, Nat.reduceAdd, Nat.reduceMul, Int.reduceToNat, Int.reduceLE, Int.reduceLT, Int.reduceEq, Int.reduceNe, Nat.reduceLeDiff, Int.reducePow, Nat.reducePow, Nat.reduceLT, Nat.reduceSub, Nat.reduceMod, Nat.reduceDiv, slot_neg, slot_pos, T.ag_3, T.ag_4, T.ag_57, T.ag_78, T.eb_22, T.es_39, T.es_57, T.ez_22, T.fo_42_0, T.fo_42_1, T.fo_59_0, T.fo_59_1, T.fo_59_10, T.fo_59_11, T.fo_59_2, T.fo_59_3, T.fo_59_4, T.fo_59_5, T.fo_59_6, T.fo_59_7, T.fo_59_8, T.fo_59_9, T.fo_78_0, T.fo_78_1, T.fo_78_2, T.fo_78_3, T.fo_78_4, T.gf_40, T.gf_41, T.gf_42, T.ib_3, T.ii_22, T.ii_39, T.ii_57, T.ip_3, T.pl_78, T.s8_22, T.s8_39, T.s8_57, T.sl_22, T.sl_39, T.sl_57, T.st_22, T.st_39, T.st_57, T.un_22, T.un_39, T.un_57, T.zo_78, q0, q1, q2, q3, q12, ev, hlt']
        exact hany
  rintro r H ⟨hH, hnf, q0, q1, q2, q3⟩
  subst hH
  have hck0 : checkS s l = 0 := by unfold checkS; rw [hnb, hnf]; rfl
  have hack : ackS s l delay at_ = (giveS (ack3 (ack1 s l at_) (ackL s l) delay at_) at_, (ackL s l).map (·.num), (giveL (ack3 (ack1 s l at_) (ackL s l) delay at_) at_).map (·.num), 0) := by
    unfold ackS; rw [if_pos hto, if_pos hck0]
  clear hchk bad fin0
  rw [hack]
  have okA := hI.ok.ack1 l at_ (by omega) (by omega)
  have hCL : ackL s l = (waitsOf L).filter (ackP l) := by unfold ackL; rw [hI.waits]
  have wA : (ack1 s l at_).waits = (waitsOf L).filter (fun x => !ackP l x) := by rw [← hI.waits]; rfl
  have nowA : (ack1 s l at_).now = at_ := rfl
  have topA : (ack1 s l at_).top = s.top := rfl
  rw [hCL]
  (refine CodeH.seq' (CodeH.of_vc [] hm (by kernel_rfl) ?_); simp (config := { dsimp := false, maxSteps := 10000000 }) (disch := omega) only [go_sem, reduceIte, Nat.reduceEqDiff, reduceCtorEq, Nat.reduceAdd, Nat.reduceMul, Int.reduceToNat, Int.reduceLE, Int.reduceLT, Int.reduceEq, Int.reduceNe, Nat.reduceLeDiff, Int.reducePow, Nat.reducePow, Nat.reduceLT, Nat.reduceSub, Nat.reduceMod, Nat.reduceDiv, slot_neg, slot_pos, T.ag_3, T.ag_4, T.ag_57, T.ag_78, T.eb_22, T.es_39, T.es_57, T.ez_22, T.fo_42_0, T.fo_42_1, T.fo_59_0, T.fo_59_1, T.fo_59_10, T.fo_59_11, T.fo_59_2, T.fo_59_3, T.fo_59_4, T.fo_59_5, T.fo_59_6, T.fo_59_7, T.fo_59_8, T.fo_59_9, T.fo_78_0, T.fo_78_1, T.fo_78_2, T.fo_78_3, T.fo_78_4, T.gf_40, T.gf_41, T.gf_42, T.ib_3, T.ii_22, T.ii_39, T.ii_57, T.ip_3, T.pl_78, T.s8_22, T.s8_39, T.s8_57, T.sl_22, T.sl_39, T.sl_57, T.st_22, T.st_39, T.st_57, T.un_22, T.un_39, T.un_57, T.zo_78, init_a, q0, q3, hg, refC])
  (refine CodeH.seq' (CodeH.of_vc [] hm (by kernel_rfl) ?_); simp (config := { dsimp := false, maxSteps := 10000000 }) (disch := omega) only [go_sem, reduceIte, Nat.reduceEqDiff, reduceCtorEq, Nat.reduceAdd, Nat.reduceMul, Int.reduceToNat, Int.reduceLE, Int.reduceLT, Int.reduceEq, Int.reduceNe, Nat.reduceLeDiff, Int.reducePow, Nat.reducePow, Nat.reduceLT, Nat.reduceSub, Nat.reduceMod, Nat.reduceDiv, slot_neg, slot_pos, T.ag_3, T.ag_4, T.ag_57, T.ag_78, T.eb_22, T.es_39, T.es_57, T.ez_22, T.fo_42_0, T.fo_42_1, T.fo_59_0, T.fo_59_1, T.fo_59_10, T.fo_59_11, T.fo_59_2, T.fo_59_3, T.fo_59_4, T.fo_59_5, T.fo_59_6, T.fo_59_7, T.fo_59_8, T.fo_59_9, T.fo_78_0, T.fo_78_1, T.fo_78_2, T.fo_78_3, T.fo_78_4, T.gf_40, T.gf_41, T.gf_42, T.ib_3, T.ii_22, T.ii_39, T.ii_57, T.ip_3, T.pl_78, T.s8_22, T.s8_39, T.s8_57, T.sl_22, T.sl_39, T.sl_57, T.st_22, T.st_39, T.st_57, T.un_22, T.un_39, T.un_57, T.zo_78, init_a])
  (refine CodeH.seq' (CodeH.of_vc [] hm (by kernel_rfl) ?_); simp (config := { dsimp := false, maxSteps := 10000000 }) (disch := omega) only [go_sem, reduceIte, Nat.reduceEqDiff, reduceCtorEq, Nat.reduceAdd, Nat.reduceMul, Int.reduceToNat, Int.reduceLE, Int.reduceLT, Int.reduceEq, Int.reduceNe, Nat.reduceLeDiff, Int.reducePow, Nat.reducePow, Nat.reduceLT, Nat.reduceSub, Nat.reduceMod, Nat.reduceDiv, slot_neg, slot_pos, T.ag_3, T.ag_4, T.ag_57, T.ag_78, T.eb_22, T.es_39, T.es_57, T.ez_22, T.fo_42_0, T.fo_42_1, T.fo_59_0, T.fo_59_1, T.fo_59_10, T.fo_59_11, T.fo_59_2, T.fo_59_3, T.fo_59_4, T.fo_59_5, T.fo_59_6, T.fo_59_7, T.fo_59_8, T.fo_59_9, T.fo_78_0, T.fo_78_1, T.fo_78_2, T.fo_78_3, T.fo_78_4, T.gf_40, T.gf_41, T.gf_42, T.ib_3, T.ii_22, T.ii_39, T.ii_57, T.ip_3, T.pl_78, T.s8_22, T.s8_39, T.s8_57, T.sl_22, T.sl_39, T.sl_57, T.st_22, T.st_39, T.st_57, T.un_22, T.un_39, T.un_57, T.zo_78, init_a])
  (refine CodeH.seq' (CodeH.of_vc [] hm (by kernel_rfl) ?_); simp (config := { dsimp := false, maxSteps := 10000000 }) (disch := omega) only [go_sem, reduceIte, Nat.reduceEqDiff, reduceCtorEq, Nat.reduceAdd, Nat.reduceMul, Int.reduceToNat, Int.reduceLE, Int.reduceLT, Int.reduceEq, Int.reduceNe, Nat.reduceLeDiff, Int.reducePow, Nat.reducePow, Nat.reduceLT, Nat.reduceSub, Nat.reduceMod, Nat.reduceDiv, slot_neg, slot_pos, T.ag_3, T.ag_4, T.ag_57, T.ag_78, T.eb_22, T.es_39, T.es_57, T.ez_22, T.fo_42_0, T.fo_42_1, T.fo_59_0, T.fo_59_1, T.fo_59_10, T.fo_59_11, T.fo_59_2, T.fo_59_3, T.fo_59_4, T.fo_59_5, T.fo_59_6, T.fo_59_7, T.fo_59_8, T.fo_59_9, T.fo_78_0, T.fo_78_1, T.fo_78_2, T.fo_78_3, T.fo_78_4, T.gf_40, T.gf_41, T.gf_42, T.ib_3, T.ii_22, T.ii_39, T.ii_57, T.ip_3, T.pl_78, T.s8_22, T.s8_39, T.s8_57, T.sl_22, T.sl_39, T.sl_57, T.st_22, T.st_39, T.st_57, T.un_22, T.un_39, T.un_57, T.zo_78, init_a])
  refine CodeH.gen (fun r' H' => RefR H' m D L (ack1 s l at_) ∧ Upd h H' (m :: D) ∧ h.next < H'.next ∧ H'.get h.next = .live (.cells (rpE.enc ⟨-1, 0, false, 0, false⟩) .own) ∧ r' 0 = .pointer (some ⟨m, 0, none⟩) ∧ r' 1 = v ∧ r' 2 = .int .i64 delay ∧ r' 3 = .int .i64 at_ ∧ r' 13 = .slice none 0 0 ∧ r' 14 = .bool false ∧ r' 15 = .pointer (some ⟨h.next, 0, none⟩)) ⟨(RefR.put (s' := ack1 s l at_) hmn hmD hO).upd ((Upd.alloc _ _ []).put (.inr (Nat.le_refl _))) (by simp) (by simp), (((Upd.refl h (m :: D)).put (.inl (by simp))).allocs).put (.inr (Nat.le_refl _)), Nat.lt_succ_self _, by rw [get_put, if_pos rfl]; rfl, by simp [upd, q0], by simp [upd, q1], by simp [upd, q2], by simp [upd, q3], by simp [upd], by simp [upd], by simp [upd]⟩ fun r H ⟨hRA, hUA, hgn, gg, q0, q1, q2, q3, q13, q14, q15⟩ => ?_
  have hdl : 0 ≤ delay ∧ delay ≤ 1099511627776 := ⟨by omega, by omega⟩
  have hab : at_ ≤ 1099511627776 ∧ s.now ≤ at_ := ⟨by omega, by omega⟩
  generalize ack1 s l at_ = sA at *
  obtain ⟨f, hf⟩ : ∃ f, ackP l = f := ⟨_, rfl⟩
  rw [hf] at wA
  rw [hf]
  have hfx : ∀ x : Pk, l.any (inSp x.num) = f x := fun x => by rw [← hf]; rfl
  refine CodeH.seq (fun r H => ∃ (D1 : List Nat) (gr : RP), Upd h H (m :: D) ∧ RefR H m D L sA ∧ h.next < H.next ∧ H.get h.next = .live (.cells (rpE.enc gr) .own) ∧ (∀ y, ((waitsOf L).filter f).getLast? = some y → gr.pk = y) ∧ OwnRow intE H (r 13) D1 (((waitsOf L).filter f).map (·.num)) ∧ (∀ d ∈ D1, h.next < d) ∧ r 0 = .pointer (some ⟨m, 0, none⟩) ∧ r 1 = v ∧ r 2 = .int .i64 delay ∧ r 3 = .int .i64 at_ ∧ r 14 = .bool (((waitsOf L).filter f).any (·.asks)) ∧ r 15 = .pointer (some ⟨h.next, 0, none⟩)) ?_ ?_
  · (refine CodeH.of_vc [] hm (by kernel_rfl) ?_; simp (config := { dsimp := false, maxSteps := 10000000 }) (disch := omega) only [go_sem, reduceIte, Nat.reduceEqDiff, reduceCtorEq, Nat.reduceAdd, Nat.reduceMul, Int.reduceToNat, Int.reduceLE, Int.reduceLT, Int.reduceEq, Int.reduceNe, Nat.reduceLeDiff, Int.reducePow, Nat.reducePow, Nat.reduceLT, Nat.reduceSub, Nat.reduceMod, Nat.reduceDiv, slot_neg, slot_pos, T.ag_3, T.ag_4, T.ag_57, T.ag_78, T.eb_22, T.es_39, T.es_57, T.ez_22, T.fo_42_0, T.fo_42_1, T.fo_59_0, T.fo_59_1, T.fo_59_10, T.fo_59_11, T.fo_59_2, T.fo_59_3, T.fo_59_4, T.fo_59_5, T.fo_59_6, T.fo_59_7, T.fo_59_8, T.fo_59_9, T.fo_78_0, T.fo_78_1, T.fo_78_2, T.fo_78_3, T.fo_78_4, T.gf_40, T.gf_41, T.gf_42, T.ib_3, T.ii_22, T.ii_39, T.ii_57, T.ip_3, T.pl_78, T.s8_22, T.s8_39, T.s8_57, T.sl_22, T.sl_39, T.sl_57, T.st_22, T.st_39, T.st_57, T.un_22, T.un_39, T.un_57, T.zo_78, init_a])
    refine loop_introC (fun r H => ∃ (i : Nat) (D1 : List Nat) (gr : RP), i ≤ L.length ∧ Upd h H (m :: D) ∧ RefR H m D L sA ∧ h.next < H.next ∧ H.get h.next = .live (.cells (rpE.enc gr) .own) ∧ (∀ y, ((waitsOf (L.take i)).filter f).getLast? = some y → gr.pk = y) ∧ OwnRow intE H (r 13) D1 (((waitsOf (L.take i)).filter f).map (·.num)) ∧ (∀ d ∈ D1, h.next < d) ∧ r 0 = .pointer (some ⟨m, 0, none⟩) ∧ r 1 = v ∧ r 2 = .int .i64 delay ∧ r 3 = .int .i64 at_ ∧ r 14 = .bool (((waitsOf (L.take i)).filter f).any (·.asks)) ∧ r 15 = .pointer (some ⟨h.next, 0, none⟩) ∧ r 16 = .int .i64 i) (fun r _ => match r 16 with | .int _ i => L.length - i.toNat | _ => 0) ?_ ?_
    · exact ⟨0, [], _, by omega, hUA, hRA, hgn, gg, by simp [waitsOf], by simpa [upd, q13, waitsOf] using OwnRow.nil _, by simp, by simp [upd, q0], by simp [upd, q1], by simp [upd, q2], by simp [upd, q3], by simp [upd, q14, waitsOf], by simp [upd, q15], by simp [upd]⟩
    · clear q0 q1 q2 q3 q13 q14 q15 gg hgn hUA hRA
      rintro n hok r H ⟨i, D1, gr, hi, hU, hRi, hgn, gg, hgr, hO1, hD1, q0, q1, q2, q3, q14, q15, q16⟩
      generalize q13 : r 13 = v13 at *
      by_cases hil : i < L.length
      · have hlt' : ((i : Int) < (L.length : Int)) = True := eq_true (by omega)
        have hx : L[i]? = some L[i] := List.getElem?_eq_getElem hil
        generalize L[i] = x at hx
        obtain ⟨o, q, off, vs, ob, hmn', hqn, gm, gq, hRV, j1, j2⟩ := hRi.view.at hx
        have hen : rpE.enc x = [.int .i64 x.num, .int .i64 x.size, .bool x.asks, .int .i64 x.at_, .bool x.on] := rfl
        rw [hen] at j1
        have hta := waits_take hx
        refine CodeH.seq' (CodeH.of_vc [] hm (okl hok) ?_)
        replace hok := okr hok
        simp (config := { dsimp := false, maxSteps := 10000000 }) (disch := omega) only [go_sem, reduceIte, Nat.reduceEqDiff, reduceCtorEq, Nat.reduceAdd, Nat.reduceMul, Int.reduceToNat, Int.reduceLE, Int.reduceLT, Int.reduceEq, Int.reduceNe, Nat.reduceLeDiff, Int.reducePow, Nat.reducePow, Nat.reduceLT, Nat.reduceSub, Nat.reduceMod, Nat.reduceDiv, slot_neg, slot_pos, T.ag_3, T.ag_4, T.ag_57, T.ag_78, T.eb_22, T.es_39, T.es_57, T.ez_22, T.fo_42_0, T.fo_42_1, T.fo_59_0, T.fo_59_1, T.fo_59_10, T.fo_59_11, T.fo_59_2, T.fo_59_3, T.fo_59_4, T.fo_59_5, T.fo_59_6, T.fo_59_7, T.fo_59_8, T.fo_59_9, T.fo_78_0, T.fo_78_1, T.fo_78_2, T.fo_78_3, T.fo_78_4, T.gf_40, T.gf_41, T.gf_42, T.ib_3, T.ii_22, T.ii_39, T.ii_57, T.ip_3, T.pl_78, T.s8_22, T.s8_39, T.s8_57, T.sl_22, T.sl_39, T.sl_57, T.st_22, T.st_39, T.st_57, T.un_22, T.un_39, T.un_57, T.zo_78, q0, q16, gm, refC, hlt']
        refine CodeH.seq' (CodeH.block ?_)
        have hokb := okb (okl hok)
        replace hok := okr hok
        refine CodeH.seq' (CodeH.of_vc [] hm (okl hokb) ?_)
        replace hokb := okr hokb
        simp (config := { dsimp := false, maxSteps := 10000000 }) (disch := omega) only [go_sem, reduceIte, Nat.reduceEqDiff, reduceCtorEq, Nat.reduceAdd, Nat.reduceMul, Int.reduceToNat, Int.reduceLE, Int.reduceLT, Int.reduceEq, Int.reduceNe, Nat.reduceLeDiff, Int.reducePow, Nat.reducePow, Nat.reduceLT, Nat.reduceSub, Nat.reduceMod, Nat.reduceDiv, slot_neg, slot_pos, T.ag_3, T.ag_4, T.ag_57, T.ag_78, T.eb_22, T.es_39, T.es_57, T.ez_22, T.fo_42_0, T.fo_42_1, T.fo_59_0, T.fo_59_1, T.fo_59_10, T.fo_59_11, T.fo_59_2, T.fo_59_3, T.fo_59_4, T.fo_59_5, T.fo_59_6, T.fo_59_7, T.fo_59_8, T.fo_59_9, T.fo_78_0, T.fo_78_1, T.fo_78_2, T.fo_78_3, T.fo_78_4, T.gf_40, T.gf_41, T.gf_42, T.ib_3, T.ii_22, T.ii_39, T.ii_57, T.ip_3, T.pl_78, T.s8_22, T.s8_39, T.s8_57, T.sl_22, T.sl_39, T.sl_57, T.st_22, T.st_39, T.st_57, T.un_22, T.un_39, T.un_57, T.zo_78, q0, q16, gm, refC, hlt', gq, j1]
        refine ⟨j2, ?_⟩
        obtain ⟨Hp, hHp⟩ : ∃ Hp, (H.alloc (.cells [.int .i64 0, .int .i64 0, .bool false, .int .i64 0, .bool false] .own)).put H.next (.live (.cells [.int .i64 x.num, .int .i64 x.size, .bool x.asks, .int .i64 x.at_, .bool x.on] .own)) = Hp := ⟨_, rfl⟩
        rw [hHp]
        have gpp : Hp.get H.next = .live (.cells [.int .i64 x.num, .int .i64 x.size, .bool x.asks, .int .i64 x.at_, .bool x.on] .own) := by rw [← hHp, get_put, if_pos rfl]
        have np : Hp.next = H.next + 1 := by rw [← hHp]; rfl
        have uP : Upd H Hp [] := by rw [← hHp]; exact (Upd.alloc _ _ _).put (.inr (Nat.le_refl _))
        clear hHp
        have ggp := (uP.2 h.next hgn (by simp)).trans gg
        have uhp := hU.trans uP (by simp)
        have hrp : RowIn spE Hp v l := hr.upd fun A n st e => by
          obtain ⟨k1, k2, k3⟩ := hlt A n st e
          exact uhp.2 _ k1 (by simp; exact ⟨k2, k3⟩)
        refine CodeH.seq (fun r' H' => Hp = H' ∧ r' 0 = .pointer (some ⟨m, 0, none⟩) ∧ r' 1 = v ∧ r' 2 = .int .i64 delay ∧ r' 3 = .int .i64 at_ ∧ r' 13 = v13 ∧ r' 14 = .bool (((waitsOf (L.take i)).filter f).any (·.asks)) ∧ r' 15 = .pointer (some ⟨h.next, 0, none⟩) ∧ r' 16 = .int .i64 i ∧ r' 17 = .pointer (some ⟨H.next, 0, none⟩) ∧ r' 107 = .bool (x.on && f x.pk)) (CodeH.of_vc [] hm (okl hokb) ?_) ?_
        · cases ho : x.on with
          | false =>
            rw [ho] at gpp
            simp (config := { dsimp := false, maxSteps := 10000000 }) (disch := omega) only [go_sem, reduceIte, Nat.reduceEqDiff, reduceCtorEq, Nat.reduceAdd, Nat.reduceMul, Int.reduceToNat, Int.reduceLE, Int.reduceLT, Int.reduceEq, Int.reduceNe, Nat.reduceLeDiff, Int.reducePow, Nat.reducePow, Nat.reduceLT, Nat.reduceSub, Nat.reduceMod, Nat.reduceDiv, slot_neg, slot_pos, T.ag_3, T.ag_4, T.ag_57, T.ag_78, T.eb_22, T.es_39, T.es_57, T.ez_22, T.fo_42_0, T.fo_42_1, T.fo_59_0, T.fo_59_1, T.fo_59_10, T.fo_59_11, T.fo_59_2, T.fo_59_3, T.fo_59_4, T.fo_59_5, T.fo_59_6, T.fo_59_7, T.fo_59_8, T.fo_59_9, T.fo_78_0, T.fo_78_1, T.fo_78_2, T.fo_78_3, T.fo_78_4, T.gf_40, T.gf_41, T.gf_42, T.ib_3, T.ii_22, T.ii_39, T.ii_57, T.ip_3, T.pl_78, T.s8_22, T.s8_39, T.s8_57, T.sl_22, T.sl_39, T.sl_57, T.st_22, T.st_39, T.st_57, T.un_22, T.un_39, T.un_57, T.zo_78, q0, q1, q2, q3, q13, q14, q15, q16, gpp]
            all_goals simp [ho]
          | true =>
            rw [ho] at gpp
            simp (config := { dsimp := false, maxSteps := 10000000 }) (disch := omega) only [go_sem, reduceIte, Nat.reduceEqDiff, reduceCtorEq, Nat.reduceAdd, Nat.reduceMul, Int.reduceToNat, Int.reduceLE, Int.reduceLT, Int.reduceEq, Int.reduceNe, Nat.reduceLeDiff, Int.reducePow, Nat.reducePow, Nat.reduceLT, Nat.reduceSub, Nat.reduceMod, Nat.reduceDiv, slot_neg, slot_pos, T.ag_3, T.ag_4, T.ag_57, T.ag_78, T.eb_22, T.es_39, T.es_57, T.ez_22, T.fo_42_0, T.fo_42_1, T.fo_59_0, T.fo_59_1, T.fo_59_10, T.fo_59_11, T.fo_59_2, T.fo_59_3, T.fo_59_4, T.fo_59_5, T.fo_59_6, T.fo_59_7, T.fo_59_8, T.fo_59_9, T.fo_78_0, T.fo_78_1, T.fo_78_2, T.fo_78_3, T.fo_78_4, T.gf_40, T.gf_41, T.gf_42, T.ib_3, T.ii_22, T.ii_39, T.ii_57, T.ip_3, T.pl_78, T.s8_22, T.s8_39, T.s8_57, T.sl_22, T.sl_39, T.sl_57, T.st_22, T.st_39, T.st_57, T.un_22, T.un_39, T.un_57, T.zo_78, q0, q1, q2, q3, q13, q14, q15, q16, gpp]
            refine CallsH.pure _ rfl (within_ph _ v l x.num hrp.ro (by omega)) ?_
            rw [show x.num = x.pk.num from rfl, hfx]
            simp (config := { dsimp := false, maxSteps := 10000000 }) (disch := omega) only [go_sem, reduceIte, Nat.reduceEqDiff, reduceCtorEq, Nat.reduceAdd, Nat.reduceMul, Int.reduceToNat, Int.reduceLE, Int.reduceLT, Int.reduceEq, Int.reduceNe, Nat.reduceLeDiff, Int.reducePow, Nat.reducePow, Nat.reduceLT, Nat.reduceSub, Nat.reduceMod, Nat.reduceDiv, slot_neg, slot_pos, T.ag_3, T.ag_4, T.ag_57, T.ag_78, T.eb_22, T.es_39, T.es_57, T.ez_22, T.fo_42_0, T.fo_42_1, T.fo_59_0, T.fo_59_1, T.fo_59_10, T.fo_59_11, T.fo_59_2, T.fo_59_3, T.fo_59_4, T.fo_59_5, T.fo_59_6, T.fo_59_7, T.fo_59_8, T.fo_59_9, T.fo_78_0, T.fo_78_1, T.fo_78_2, T.fo_78_3, T.fo_78_4, T.gf_40, T.gf_41, T.gf_42, T.ib_3, T.ii_22, T.ii_39, T.ii_57, T.ip_3, T.pl_78, T.s8_22, T.s8_39, T.s8_57, T.sl_22, T.sl_39, T.sl_57, T.st_22, T.st_39, T.st_57, T.un_22, T.un_39, T.un_57, T.zo_78, q0, q1, q2, q3, q13, q14, q15, q16, gpp]
            all_goals simp [ho]
        · rintro r' H' ⟨hH, z0, z1, z2, z3, z13, z14, z15, z16, z17, z107⟩
          subst hH
          have hokc := okr hokb
          have w3 : IntKind.i64.wrap ((i : Int) + 1) = ((i + 1 : Nat) : Int) := by rw [i64wrap] <;> omega
          cases hsel : x.on && f x.pk with
          | false =>
            rw [hsel] at z107
            refine CodeH.condF (okc hokc).1 z107 ?_
            refine CodeH.of_vc [] hm (okc hokc).2.2 ?_
            simp (config := { dsimp := false, maxSteps := 10000000 }) (disch := omega) only [go_sem, reduceIte, Nat.reduceEqDiff, reduceCtorEq, Nat.reduceAdd, Nat.reduceMul, Int.reduceToNat, Int.reduceLE, Int.reduceLT, Int.reduceEq, Int.reduceNe, Nat.reduceLeDiff, Int.reducePow, Nat.reducePow, Nat.reduceLT, Nat.reduceSub, Nat.reduceMod, Nat.reduceDiv, slot_neg, slot_pos, T.ag_3, T.ag_4, T.ag_57, T.ag_78, T.eb_22, T.es_39, T.es_57, T.ez_22, T.fo_42_0, T.fo_42_1, T.fo_59_0, T.fo_59_1, T.fo_59_10, T.fo_59_11, T.fo_59_2, T.fo_59_3, T.fo_59_4, T.fo_59_5, T.fo_59_6, T.fo_59_7, T.fo_59_8, T.fo_59_9, T.fo_78_0, T.fo_78_1, T.fo_78_2, T.fo_78_3, T.fo_78_4, T.gf_40, T.gf_41, T.gf_42, T.ib_3, T.ii_22, T.ii_39, T.ii_57, T.ip_3, T.pl_78, T.s8_22, T.s8_39, T.s8_57, T.sl_22, T.sl_39, T.sl_57, T.st_22, T.st_39, T.st_57, T.un_22, T.un_39, T.un_57, T.zo_78]
            refine CodeH.of_vc [] hm hok ?_
            simp (config := { dsimp := false, maxSteps := 10000000 }) (disch := omega) only [go_sem, reduceIte, Nat.reduceEqDiff, reduceCtorEq, Nat.reduceAdd, Nat.reduceMul, Int.reduceToNat, Int.reduceLE, Int.reduceLT, Int.reduceEq, Int.reduceNe, Nat.reduceLeDiff, Int.reducePow, Nat.reducePow, Nat.reduceLT, Nat.reduceSub, Nat.reduceMod, Nat.reduceDiv, slot_neg, slot_pos, T.ag_3, T.ag_4, T.ag_57, T.ag_78, T.eb_22, T.es_39, T.es_57, T.ez_22, T.fo_42_0, T.fo_42_1, T.fo_59_0, T.fo_59_1, T.fo_59_10, T.fo_59_11, T.fo_59_2, T.fo_59_3, T.fo_59_4, T.fo_59_5, T.fo_59_6, T.fo_59_7, T.fo_59_8, T.fo_59_9, T.fo_78_0, T.fo_78_1, T.fo_78_2, T.fo_78_3, T.fo_78_4, T.gf_40, T.gf_41, T.gf_42, T.ib_3, T.ii_22, T.ii_39, T.ii_57, T.ip_3, T.pl_78, T.s8_22, T.s8_39, T.s8_57, T.sl_22, T.sl_39, T.sl_57, T.st_22, T.st_39, T.st_57, T.un_22, T.un_39, T.un_57, T.zo_78, z0, z1, z2, z3, z13, z14, z15, z16, w3, q16]
            have e3 : (waitsOf (L.take (i + 1))).filter f = (waitsOf (L.take i)).filter f := by
              rw [hta, List.filter_append]
              cases ho : x.on with
              | false => simp
              | true =>
                rw [ho, Bool.true_and] at hsel
                simp [hsel]
            exact ⟨⟨i + 1, D1, gr, hil, uhp, hRi.upd uP (by simp) (by simp), by omega, ggp, by rw [e3]; exact hgr, by rw [e3]; exact hO1.upd uP (by simp), hD1, by rw [e3], rfl⟩, by omega⟩
          | true =>
            rw [hsel] at z107
            have e3 : (waitsOf (L.take (i + 1))).filter f = (waitsOf (L.take i)).filter f ++ [x.pk] := by
              rw [Bool.and_eq_true] at hsel
              rw [hta, List.filter_append, hsel.1]; simp [hsel.2]
            refine CodeH.condT (okc hokc).1 z107 ?_
            have hokd := (okc hokc).2.1
            have hO1p := hO1.upd uP (by simp)
            have hlO := hO1.lt
            refine CodeH.seq' (CodeH.of_vc [] hm (okl hokd) ?_)
            replace hokd := okr hokd
            simp (config := { dsimp := false, maxSteps := 10000000 }) (disch := omega) only [go_sem, reduceIte, Nat.reduceEqDiff, reduceCtorEq, Nat.reduceAdd, Nat.reduceMul, Int.reduceToNat, Int.reduceLE, Int.reduceLT, Int.reduceEq, Int.reduceNe, Nat.reduceLeDiff, Int.reducePow, Nat.reducePow, Nat.reduceLT, Nat.reduceSub, Nat.reduceMod, Nat.reduceDiv, slot_neg, slot_pos, T.ag_3, T.ag_4, T.ag_57, T.ag_78, T.eb_22, T.es_39, T.es_57, T.ez_22, T.fo_42_0, T.fo_42_1, T.fo_59_0, T.fo_59_1, T.fo_59_10, T.fo_59_11, T.fo_59_2, T.fo_59_3, T.fo_59_4, T.fo_59_5, T.fo_59_6, T.fo_59_7, T.fo_59_8, T.fo_59_9, T.fo_78_0, T.fo_78_1, T.fo_78_2, T.fo_78_3, T.fo_78_4, T.gf_40, T.gf_41, T.gf_42, T.ib_3, T.ii_22, T.ii_39, T.ii_57, T.ip_3, T.pl_78, T.s8_22, T.s8_39, T.s8_57, T.sl_22, T.sl_39, T.sl_57, T.st_22, T.st_39, T.st_57, T.un_22, T.un_39, T.un_57, T.zo_78, z13, z17, gpp]
            have hg3 : ∀ (b : Blk) d, d < Hp.next → (Hp.alloc b).get d = Hp.get d := fun b d hd => by rw [get_alloc, if_neg (by omega)]
            have hfl : (List.map (fun x : Pk => x.num) ((waitsOf (L.take i)).filter f)).length ≤ 100000 := by
              rw [List.length_map]
              have h1 := List.length_filter_le f (waitsOf (L.take i))
              have h2 : (waitsOf (L.take i)).length ≤ (L.take i).length := by unfold waitsOf; rw [List.length_map]; exact List.length_filter_le _ _
              have h3 : (L.take i).length ≤ L.length := by rw [List.length_take]; omega
              omega
            refine app_own (E := intE) (ns := [x.num]) (hO1p.keep (Nat.le_succ _) fun d hd => hg3 _ d (hO1p.lt d hd)) rfl rfl rfl (by rw [show ([x.num] : List Int).length = 1 from rfl]; omega) fun u H2 D2 hO2 hU2 hD2 => ?_
            have n2 : Hp.next + 1 ≤ H2.next := hU2.1
            have gp2 : H2.get H.next = .live (.cells [.int .i64 x.num, .int .i64 x.size, .bool x.asks, .int .i64 x.at_, .bool x.on] .own) := by
              rw [hU2.2 H.next (by rw [next_alloc]; omega) (fun hd => by have := hlO _ hd; omega), hg3 _ H.next (by omega)]; exact gpp
            have gg2 : H2.get h.next = .live (.cells (rpE.enc gr) .own) := by
              rw [hU2.2 h.next (by rw [next_alloc]; omega) (fun hd => by have := hD1 _ hd; omega), hg3 _ h.next (by omega)]; exact ggp
            have hUp2 : Upd Hp H2 D1 := (Upd.alloc Hp (.cells [.int .i64 x.num] .own) D1).trans hU2 fun d hd => .inl hd
            have hR2 : RefR H2 m D L sA := (hRi.upd uP (by simp) (by simp)).upd hUp2 (fun hd => by have := hD1 _ hd; omega) (fun d hd h2 => by have := hD1 _ h2; have := hlD d hd; omega)
            have hU3 : Upd h H2 (m :: D) := uhp.trans hUp2 fun d hd => .inr (by have := hD1 d hd; omega)
            have hD3 : ∀ d ∈ D2, h.next < d := fun d hd => by
              rcases hD2 d hd with h1 | h1
              · exact hD1 d h1
              · have h2 : Hp.next + 1 ≤ d := h1
                omega
            have hO3 : OwnRow intE H2 u D2 (((waitsOf (L.take (i + 1))).filter f).map (·.num)) := by rw [e3, List.map_append]; exact hO2
            have e4 : ((waitsOf (L.take (i + 1))).filter f).any (·.asks) = (((waitsOf (L.take i)).filter f).any (·.asks) || x.asks) := by rw [e3, List.any_append]; simp [RP.pk]
            refine CodeH.seq (fun r5 H5 => H2 = H5 ∧ r5 0 = .pointer (some ⟨m, 0, none⟩) ∧ r5 1 = v ∧ r5 2 = .int .i64 delay ∧ r5 3 = .int .i64 at_ ∧ r5 13 = u ∧ r5 14 = .bool (((waitsOf (L.take (i + 1))).filter f).any (·.asks)) ∧ r5 15 = .pointer (some ⟨h.next, 0, none⟩) ∧ r5 16 = .int .i64 i ∧ r5 17 = .pointer (some ⟨H.next, 0, none⟩)) (CodeH.of_vc [] hm (okl hokd) ?_) ?_
            · rw [e4]
              cases hb : ((waitsOf (L.take i)).filter f).any (·.asks) with
              | true =>
                rw [hb] at z14
                simp (config := { dsimp := false, maxSteps := 10000000 }) (disch := omega) only [go_sem, reduceIte, Nat.reduceEqDiff, reduceCtorEq, Nat.reduceAdd, Nat.reduceMul, Int.reduceToNat, Int.reduceLE, Int.reduceLT, Int.reduceEq, Int.reduceNe, Nat.reduceLeDiff, Int.reducePow, Nat.reducePow, Nat.reduceLT, Nat.reduceSub, Nat.reduceMod, Nat.reduceDiv, slot_neg, slot_pos, T.ag_3, T.ag_4, T.ag_57, T.ag_78, T.eb_22, T.es_39, T.es_57, T.ez_22, T.fo_42_0, T.fo_42_1, T.fo_59_0, T.fo_59_1, T.fo_59_10, T.fo_59_11, T.fo_59_2, T.fo_59_3, T.fo_59_4, T.fo_59_5, T.fo_59_6, T.fo_59_7, T.fo_59_8, T.fo_59_9, T.fo_78_0, T.fo_78_1, T.fo_78_2, T.fo_78_3, T.fo_78_4, T.gf_40, T.gf_41, T.gf_42, T.ib_3, T.ii_22, T.ii_39, T.ii_57, T.ip_3, T.pl_78, T.s8_22, T.s8_39, T.s8_57, T.sl_22, T.sl_39, T.sl_57, T.st_22, T.st_39, T.st_57, T.un_22, T.un_39, T.un_57, T.zo_78, z0, z1, z2, z3, z14, z15, z16, z17, gp2]
                all_goals rfl
              | false =>
                rw [hb] at z14
                simp (config := { dsimp := false, maxSteps := 10000000 }) (disch := omega) only [go_sem, reduceIte, Nat.reduceEqDiff, reduceCtorEq, Nat.reduceAdd, Nat.reduceMul, Int.reduceToNat, Int.reduceLE, Int.reduceLT, Int.reduceEq, Int.reduceNe, Nat.reduceLeDiff, Int.reducePow, Nat.reducePow, Nat.reduceLT, Nat.reduceSub, Nat.reduceMod, Nat.reduceDiv, slot_neg, slot_pos, T.ag_3, T.ag_4, T.ag_57, T.ag_78, T.eb_22, T.es_39, T.es_57, T.ez_22, T.fo_42_0, T.fo_42_1, T.fo_59_0, T.fo_59_1, T.fo_59_10, T.fo_59_11, T.fo_59_2, T.fo_59_3, T.fo_59_4, T.fo_59_5, T.fo_59_6, T.fo_59_7, T.fo_59_8, T.fo_59_9, T.fo_78_0, T.fo_78_1, T.fo_78_2, T.fo_78_3, T.fo_78_4, T.gf_40, T.gf_41, T.gf_42, T.ib_3, T.ii_22, T.ii_39, T.ii_57, T.ip_3, T.pl_78, T.s8_22, T.s8_39, T.s8_57, T.sl_22, T.sl_39, T.sl_57, T.st_22, T.st_39, T.st_57, T.un_22, T.un_39, T.un_57, T.zo_78, z0, z1, z2, z3, z14, z15, z16, z17, gp2]
                all_goals rfl
            · rintro r5 H5 ⟨hH, y0, y1, y2, y3, y13, y14, y15, y16, y17⟩
              subst hH
              refine CodeH.of_vc [] hm (okr hokd) ?_
              have hgx : rpE.enc gr = [.int .i64 gr.num, .int .i64 gr.size, .bool gr.asks, .int .i64 gr.at_, .bool gr.on] := rfl
              rw [hgx] at gg2
              simp (config := { dsimp := false, maxSteps := 10000000 }) (disch := omega) only [go_sem, reduceIte, Nat.reduceEqDiff, reduceCtorEq, Nat.reduceAdd, Nat.reduceMul, Int.reduceToNat, Int.reduceLE, Int.reduceLT, Int.reduceEq, Int.reduceNe, Nat.reduceLeDiff, Int.reducePow, Nat.reducePow, Nat.reduceLT, Nat.reduceSub, Nat.reduceMod, Nat.reduceDiv, slot_neg, slot_pos, T.ag_3, T.ag_4, T.ag_57, T.ag_78, T.eb_22, T.es_39, T.es_57, T.ez_22, T.fo_42_0, T.fo_42_1, T.fo_59_0, T.fo_59_1, T.fo_59_10, T.fo_59_11, T.fo_59_2, T.fo_59_3, T.fo_59_4, T.fo_59_5, T.fo_59_6, T.fo_59_7, T.fo_59_8, T.fo_59_9, T.fo_78_0, T.fo_78_1, T.fo_78_2, T.fo_78_3, T.fo_78_4, T.gf_40, T.gf_41, T.gf_42, T.ib_3, T.ii_22, T.ii_39, T.ii_57, T.ip_3, T.pl_78, T.s8_22, T.s8_39, T.s8_57, T.sl_22, T.sl_39, T.sl_57, T.st_22, T.st_39, T.st_57, T.un_22, T.un_39, T.un_57, T.zo_78, y15, y17, gp2, gg2]
              refine CodeH.of_vc [] hm hok ?_
              simp (config := { dsimp := false, maxSteps := 10000000 }) (disch := omega) only [go_sem, reduceIte, Nat.reduceEqDiff, reduceCtorEq, Nat.reduceAdd, Nat.reduceMul, Int.reduceToNat, Int.reduceLE, Int.reduceLT, Int.reduceEq, Int.reduceNe, Nat.reduceLeDiff, Int.reducePow, Nat.reducePow, Nat.reduceLT, Nat.reduceSub, Nat.reduceMod, Nat.reduceDiv, slot_neg, slot_pos, T.ag_3, T.ag_4, T.ag_57, T.ag_78, T.eb_22, T.es_39, T.es_57, T.ez_22, T.fo_42_0, T.fo_42_1, T.fo_59_0, T.fo_59_1, T.fo_59_10, T.fo_59_11, T.fo_59_2, T.fo_59_3, T.fo_59_4, T.fo_59_5, T.fo_59_6, T.fo_59_7, T.fo_59_8, T.fo_59_9, T.fo_78_0, T.fo_78_1, T.fo_78_2, T.fo_78_3, T.fo_78_4, T.gf_40, T.gf_41, T.gf_42, T.ib_3, T.ii_22, T.ii_39, T.ii_57, T.ip_3, T.pl_78, T.s8_22, T.s8_39, T.s8_57, T.sl_22, T.sl_39, T.sl_57, T.st_22, T.st_39, T.st_57, T.un_22, T.un_39, T.un_57, T.zo_78, y0, y1, y2, y3, y13, y14, y15, y16, w3, q16]
              refine ⟨⟨i + 1, D2, x, hil, hU3.put (.inr (Nat.le_refl _)), ?_, by omega, rfl, ?_, ?_, hD3, rfl, rfl⟩, by omega⟩
              · exact hR2.upd (F := [h.next]) ((Upd.refl _ _).put (.inl (by simp))) (by simp; omega) (fun d hd => by have := hlD d hd; simp; omega)
              · intro y hy
                rw [e3] at hy
                simpa using hy
              · exact hO3.upd (F := [h.next]) ((Upd.refl _ _).put (.inl (by simp))) (fun d hd => by have := hD3 d hd; simp; omega)
      · have hlt' : ((i : Int) < (L.length : Int)) = False := eq_false (by omega)
        obtain rfl : i = L.length := by omega
        obtain ⟨A, st, o, h1, gm⟩ := hRi.view.form
        rw [List.take_length] at hgr hO1 q14
        refine CodeH.seq' (CodeH.of_vc [] hm (okl hok) ?_)
        replace hok := okr hok
        simp (config := { dsimp := false, maxSteps := 10000000 }) (disch := omega) only [go_sem, reduceIte, Nat.reduceEqDiff, reduceCtorEq, Nat.reduceAdd, Nat.reduceMul, Int.reduceToNat, Int.reduceLE, Int.reduceLT, Int.reduceEq, Int.reduceNe, Nat.reduceLeDiff, Int.reducePow, Nat.reducePow, Nat.reduceLT, Nat.reduceSub, Nat.reduceMod, Nat.reduceDiv, slot_neg, slot_pos, T.ag_3, T.ag_4, T.ag_57, T.ag_78, T.eb_22, T.es_39, T.es_57, T.ez_22, T.fo_42_0, T.fo_42_1, T.fo_59_0, T.fo_59_1, T.fo_59_10, T.fo_59_11, T.fo_59_2, T.fo_59_3, T.fo_59_4, T.fo_59_5, T.fo_59_6, T.fo_59_7, T.fo_59_8, T.fo_59_9, T.fo_78_0, T.fo_78_1, T.fo_78_2, T.fo_78_3, T.fo_78_4, T.gf_40, T.gf_41, T.gf_42, T.ib_3, T.ii_22, T.ii_39, T.ii_57, T.ip_3, T.pl_78, T.s8_22, T.s8_39, T.s8_57, T.sl_22, T.sl_39, T.sl_57, T.st_22, T.st_39, T.st_57, T.un_22, T.un_39, T.un_57, T.zo_78, q0, q1, q2, q3, q13, q14, q15, q16, gm, refC, hlt']
        exact ⟨D1, gr, hU, hRi, hgn, gg, hgr, hO1, hD1⟩
  rintro r H ⟨D1, gr, hU, hRi, hgn, gg, hgr, hO1, hD1, q0, q1, q2, q3, q14, q15⟩
  generalize q13 : r 13 = v13 at *
  obtain ⟨C, hC⟩ : ∃ C, (waitsOf L).filter f = C := ⟨_, rfl⟩
  rw [hC] at hgr hO1 q14
  rw [hC]
  obtain ⟨A13, st13, e13⟩ := hO1.row.form
  rw [List.length_map] at e13
  have hCs : ∀ y ∈ C, 1 ≤ y.size ∧ y.size ≤ 65535 ∧ 0 ≤ y.at_ ∧ y.at_ ≤ s.now ∧ -1 ≤ y.num ∧ y.num ≤ s.top := fun y hy => by
    rw [← hC] at hy
    exact hI.ok.pk y (by rw [hI.waits]; exact (List.mem_filter.1 hy).1)
  have hIA : ∀ s5 : St, Ok s5 → s5.waits = sA.waits → s5.top = sA.top → s5.now = sA.now → RI (L.map (offX f)) s5 := fun s5 h1 h2 h3 h4 => hI.off f h1 (by rw [h2, wA, hI.waits]) (by rw [h3, topA]) (by rw [h4, nowA]; exact hab.2)
  cases hlast : C.getLast? with
  | none =>
    have hCn : C = [] := List.getLast?_eq_none_iff.1 hlast
    have c0 : ((C.length : Int) = 0) = True := by rw [hCn]; simp
    have e5 : ack3 sA C delay at_ = sA := by unfold ack3; rw [hlast]
    have hmap : L.map (offX f) = L := by
      have hno : ∀ x ∈ L, offX f x = x := fun x hx => by
        unfold offX
        cases hs : x.on && f x.pk with
        | false => rfl
        | true =>
          rw [Bool.and_eq_true] at hs
          have : x.pk ∈ C := by rw [← hC]; exact List.mem_filter.2 ⟨List.mem_map.2 ⟨x, List.mem_filter.2 ⟨hx, hs.1⟩, rfl⟩, hs.2⟩
          rw [hCn] at this; simp at this
      conv => rhs; rw [← List.map_id L]
      exact List.map_congr_left hno
    have hIA2 := hIA sA okA rfl rfl rfl
    rw [hmap] at hIA2
    rw [e5]
    (refine CodeH.seq' (CodeH.of_vc [] hm (by kernel_rfl) ?_); simp (config := { dsimp := false, maxSteps := 10000000 }) (disch := omega) only [go_sem, reduceIte, Nat.reduceEqDiff, reduceCtorEq, Nat.reduceAdd, Nat.reduceMul, Int.reduceToNat, Int.reduceLE, Int.reduceLT, Int.reduceEq, Int.reduceNe, Nat.reduceLeDiff, Int.reducePow, Nat.reducePow, Nat.reduceLT, Nat.reduceSub, Nat.reduceMod, Nat.reduceDiv, slot_neg, slot_pos, T.ag_3, T.ag_4, T.ag_57, T.ag_78, T.eb_22, T.es_39, T.es_57, T.ez_22, T.fo_42_0, T.fo_42_1, T.fo_59_0, T.fo_59_1, T.fo_59_10, T.fo_59_11, T.fo_59_2, T.fo_59_3, T.fo_59_4, T.fo_59_5, T.fo_59_6, T.fo_59_7, T.fo_59_8, T.fo_59_9, T.fo_78_0, T.fo_78_1, T.fo_78_2, T.fo_78_3, T.fo_78_4, T.gf_40, T.gf_41, T.gf_42, T.ib_3, T.ii_22, T.ii_39, T.ii_57, T.ip_3, T.pl_78, T.s8_22, T.s8_39, T.s8_57, T.sl_22, T.sl_39, T.sl_57, T.st_22, T.st_39, T.st_57, T.un_22, T.un_39, T.un_57, T.zo_78, init_a, q0, q3, q13, e13, c0])
    refine (rgive_ph H m D L sA at_ hRi okA hIA2.waits hl ⟨by omega, by omega⟩).mono fun u H4 ⟨D2, f1, f2, f3, f4⟩ => ?_
    simp (config := { dsimp := false, maxSteps := 10000000 }) (disch := omega) only [go_sem, reduceIte, Nat.reduceEqDiff, reduceCtorEq, Nat.reduceAdd, Nat.reduceMul, Int.reduceToNat, Int.reduceLE, Int.reduceLT, Int.reduceEq, Int.reduceNe, Nat.reduceLeDiff, Int.reducePow, Nat.reducePow, Nat.reduceLT, Nat.reduceSub, Nat.reduceMod, Nat.reduceDiv, slot_neg, slot_pos, T.ag_3, T.ag_4, T.ag_57, T.ag_78, T.eb_22, T.es_39, T.es_57, T.ez_22, T.fo_42_0, T.fo_42_1, T.fo_59_0, T.fo_59_1, T.fo_59_10, T.fo_59_11, T.fo_59_2, T.fo_59_3, T.fo_59_4, T.fo_59_5, T.fo_59_6, T.fo_59_7, T.fo_59_8, T.fo_59_9, T.fo_78_0, T.fo_78_1, T.fo_78_2, T.fo_78_3, T.fo_78_4, T.gf_40, T.gf_41, T.gf_42, T.ib_3, T.ii_22, T.ii_39, T.ii_57, T.ip_3, T.pl_78, T.s8_22, T.s8_39, T.s8_57, T.sl_22, T.sl_39, T.sl_57, T.st_22, T.st_39, T.st_57, T.un_22, T.un_39, T.un_57, T.zo_78]
    have hg5 := hIA2.give
    rw [nowA] at hg5
    exact ⟨_, u, _, rfl, by rw [hCn]; exact nilNum _, f1.num, f3, hg5, by rw [List.length_map], hU.trans f4 fun d hd => .inl hd⟩
  | some y0 =>
    obtain rfl := hgr y0 hlast
    have hgm := hCs _ (List.mem_of_getLast? hlast)
    simp only [RP.pk] at hgm
    have hCne : C ≠ [] := fun e => by rw [e] at hlast; cases hlast
    have hClen : C.length ≠ 0 := fun e => hCne (List.length_eq_zero_iff.1 e)
    have c0 : ((C.length : Int) = 0) = False := eq_false (by omega)
    have e5 : ack3 sA C delay at_ = { C.foldl growS (ack2 sA C delay at_ gr.pk) with tries := 0 } := by unfold ack3; rw [hlast]
    have ok2 : Ok (ack2 sA C delay at_ gr.pk) := okA.ackd C (x := gr.pk) (by simp only [RP.pk]; rw [topA]; omega) hdl
    obtain ⟨hmH, _, wl, gmA, hOL⟩ := id hRi
    have hgx : rpE.enc gr = [.int .i64 gr.num, .int .i64 gr.size, .bool gr.asks, .int .i64 gr.at_, .bool gr.on] := rfl
    rw [hgx] at gg
    have ngm : (h.next = m) = False := eq_false (by omega)
    have nmg : (m = h.next) = False := eq_false (by omega)
    (refine CodeH.seq' (CodeH.of_vc [] hm (by kernel_rfl) ?_); simp (config := { dsimp := false, maxSteps := 10000000 }) (disch := omega) only [go_sem, reduceIte, Nat.reduceEqDiff, reduceCtorEq, Nat.reduceAdd, Nat.reduceMul, Int.reduceToNat, Int.reduceLE, Int.reduceLT, Int.reduceEq, Int.reduceNe, Nat.reduceLeDiff, Int.reducePow, Nat.reducePow, Nat.reduceLT, Nat.reduceSub, Nat.reduceMod, Nat.reduceDiv, slot_neg, slot_pos, T.ag_3, T.ag_4, T.ag_57, T.ag_78, T.eb_22, T.es_39, T.es_57, T.ez_22, T.fo_42_0, T.fo_42_1, T.fo_59_0, T.fo_59_1, T.fo_59_10, T.fo_59_11, T.fo_59_2, T.fo_59_3, T.fo_59_4, T.fo_59_5, T.fo_59_6, T.fo_59_7, T.fo_59_8, T.fo_59_9, T.fo_78_0, T.fo_78_1, T.fo_78_2, T.fo_78_3, T.fo_78_4, T.gf_40, T.gf_41, T.gf_42, T.ib_3, T.ii_22, T.ii_39, T.ii_57, T.ip_3, T.pl_78, T.s8_22, T.s8_39, T.s8_57, T.sl_22, T.sl_39, T.sl_57, T.st_22, T.st_39, T.st_57, T.un_22, T.un_39, T.un_57, T.zo_78, init_a, q13, e13, c0])
    (refine CodeH.seq' (CodeH.of_vc [] hm (by kernel_rfl) ?_); simp (config := { dsimp := false, maxSteps := 10000000 }) (disch := omega) only [go_sem, reduceIte, Nat.reduceEqDiff, reduceCtorEq, Nat.reduceAdd, Nat.reduceMul, Int.reduceToNat, Int.reduceLE, Int.reduceLT, Int.reduceEq, Int.reduceNe, Nat.reduceLeDiff, Int.reducePow, Nat.reducePow, Nat.reduceLT, Nat.reduceSub, Nat.reduceMod, Nat.reduceDiv, slot_neg, slot_pos, T.ag_3, T.ag_4, T.ag_57, T.ag_78, T.eb_22, T.es_39, T.es_57, T.ez_22, T.fo_42_0, T.fo_42_1, T.fo_59_0, T.fo_59_1, T.fo_59_10, T.fo_59_11, T.fo_59_2, T.fo_59_3, T.fo_59_4, T.fo_59_5, T.fo_59_6, T.fo_59_7, T.fo_59_8, T.fo_59_9, T.fo_78_0, T.fo_78_1, T.fo_78_2, T.fo_78_3, T.fo_78_4, T.gf_40, T.gf_41, T.gf_42, T.ib_3, T.ii_22, T.ii_39, T.ii_57, T.ip_3, T.pl_78, T.s8_22, T.s8_39, T.s8_57, T.sl_22, T.sl_39, T.sl_57, T.st_22, T.st_39, T.st_57, T.un_22, T.un_39, T.un_57, T.zo_78, init_a, q0, q15, gmA, gg, refC])
    have hD1m : ∀ d ∈ D1, d ≠ m := fun d hd => by have := hD1 d hd; omega
    refine draw_plan0 (.takeS 0 (.takeS 1 (.takeS 2 (.takeS 3 (.takeS 4 (.takeS 5 (.takeS 6 (.takeS 7 (.takeS 8 (.takeS 9 (.alt 10 .done .stop))))))))))) hm (by kernel_rfl) (by kernel_rfl) ?_
    simp (config := { dsimp := false, maxSteps := 10000000 }) (disch := omega) only [go_sem, reduceIte, Nat.reduceEqDiff, reduceCtorEq, Nat.reduceAdd, Nat.reduceMul, Int.reduceToNat, Int.reduceLE, Int.reduceLT, Int.reduceEq, Int.reduceNe, Nat.reduceLeDiff, Int.reducePow, Nat.reducePow, Nat.reduceLT, Nat.reduceSub, Nat.reduceMod, Nat.reduceDiv, slot_neg, slot_pos, T.ag_3, T.ag_4, T.ag_57, T.ag_78, T.eb_22, T.es_39, T.es_57, T.ez_22, T.fo_42_0, T.fo_42_1, T.fo_59_0, T.fo_59_1, T.fo_59_10, T.fo_59_11, T.fo_59_2, T.fo_59_3, T.fo_59_4, T.fo_59_5, T.fo_59_6, T.fo_59_7, T.fo_59_8, T.fo_59_9, T.fo_78_0, T.fo_78_1, T.fo_78_2, T.fo_78_3, T.fo_78_4, T.gf_40, T.gf_41, T.gf_42, T.ib_3, T.ii_22, T.ii_39, T.ii_57, T.ip_3, T.pl_78, T.s8_22, T.s8_39, T.s8_57, T.sl_22, T.sl_39, T.sl_57, T.st_22, T.st_39, T.st_57, T.un_22, T.un_39, T.un_57, T.zo_78, q0, q15, gmA, gg, refC, maxl]
    refine CodeH.gen (fun r' H' => RefR H' m D L { sA with best := max sA.best gr.num } ∧ Upd h H' (m :: D) ∧ OwnRow intE H' v13 D1 (C.map (·.num)) ∧ H'.get h.next = .live (.cells [.int .i64 gr.num, .int .i64 gr.size, .bool gr.asks, .int .i64 gr.at_, .bool gr.on] .own) ∧ r' 0 = .pointer (some ⟨m, 0, none⟩) ∧ r' 1 = v ∧ r' 2 = .int .i64 delay ∧ r' 3 = .int .i64 at_ ∧ r' 13 = v13 ∧ r' 14 = .bool (C.any (·.asks)) ∧ r' 15 = .pointer (some ⟨h.next, 0, none⟩)) ⟨RefR.put (s' := { sA with best := max sA.best gr.num }) hmH hmD hOL, hU.put (.inl (by simp)), hO1.upd (F := [m]) ((Upd.refl _ _).put (.inl (by simp))) (fun d hd => by simp; exact hD1m d hd), by rw [get_put, if_neg (by omega)]; exact gg, by simp [upd, q0], by simp [upd, q1], by simp [upd, q2], by simp [upd, q3], by simp [upd, q13, e13], by simp [upd, q14], by simp [upd, q15]⟩ fun r2 H2 ⟨hR2, hU2, hO2, gg2, p0, p1, p2, p3, p13, p14, p15⟩ => ?_
    clear gg gmA hOL q0 q1 q2 q3 q14 q15 hRi
    refine CodeH.seq (fun r' H' => RefR H' m D L (ack2 sA C delay at_ gr.pk) ∧ Upd h H' (m :: D) ∧ OwnRow intE H' v13 D1 (C.map (·.num)) ∧ r' 0 = .pointer (some ⟨m, 0, none⟩) ∧ r' 1 = v ∧ r' 2 = .int .i64 delay ∧ r' 3 = .int .i64 at_ ∧ r' 13 = v13) ?_ ?_
    · obtain ⟨hmH2, _, wl2, gm2, hOL2⟩ := id hR2
      have fin : ∀ s' : St, RefR (H2.put m (.live (.cells (refC wl2 s') .own))) m D L s' ∧ Upd h (H2.put m (.live (.cells (refC wl2 s') .own))) (m :: D) ∧ OwnRow intE (H2.put m (.live (.cells (refC wl2 s') .own))) v13 D1 (C.map (·.num)) := fun s' =>
        ⟨RefR.put hmH2 hmD hOL2, hU2.put (.inl (by simp)), hO2.upd (F := [m]) ((Upd.refl _ _).put (.inl (by simp))) (fun d hd => by simp; exact hD1m d hd)⟩
      by_cases hb : sA.best ≤ gr.num
      · have hmx : max sA.best gr.num = gr.num := by omega
        rw [hmx] at gm2 hR2
        cases hk : C.any (·.asks) with
        | false =>
          rw [hk] at p14
          have e6 : ack2 sA C delay at_ gr.pk = { sA with best := gr.num } := by unfold ack2; rw [if_pos (show sA.best ≤ gr.pk.num from hb), if_neg (by rw [hk]; decide)]; rfl
          rw [e6]
          (refine CodeH.of_vc [] hm (by kernel_rfl) ?_; simp (config := { dsimp := false, maxSteps := 10000000 }) (disch := omega) only [go_sem, reduceIte, Nat.reduceEqDiff, reduceCtorEq, Nat.reduceAdd, Nat.reduceMul, Int.reduceToNat, Int.reduceLE, Int.reduceLT, Int.reduceEq, Int.reduceNe, Nat.reduceLeDiff, Int.reducePow, Nat.reducePow, Nat.reduceLT, Nat.reduceSub, Nat.reduceMod, Nat.reduceDiv, slot_neg, slot_pos, T.ag_3, T.ag_4, T.ag_57, T.ag_78, T.eb_22, T.es_39, T.es_57, T.ez_22, T.fo_42_0, T.fo_42_1, T.fo_59_0, T.fo_59_1, T.fo_59_10, T.fo_59_11, T.fo_59_2, T.fo_59_3, T.fo_59_4, T.fo_59_5, T.fo_59_6, T.fo_59_7, T.fo_59_8, T.fo_59_9, T.fo_78_0, T.fo_78_1, T.fo_78_2, T.fo_78_3, T.fo_78_4, T.gf_40, T.gf_41, T.gf_42, T.ib_3, T.ii_22, T.ii_39, T.ii_57, T.ip_3, T.pl_78, T.s8_22, T.s8_39, T.s8_57, T.sl_22, T.sl_39, T.sl_57, T.st_22, T.st_39, T.st_57, T.un_22, T.un_39, T.un_57, T.zo_78, init_a, p0, p1, p2, p3, p13, p14, p15, gm2, gg2, refC])
          exact ⟨hR2, hU2, hO2⟩
        | true =>
          rw [hk] at p14
          have e6 : ack2 sA C delay at_ gr.pk = sampleS { sA with best := gr.num } (at_ - gr.at_) delay := by unfold ack2; rw [if_pos (show sA.best ≤ gr.pk.num from hb), if_pos hk]; rfl
          rw [e6]
          have wt : IntKind.i64.wrap (at_ - gr.at_) = at_ - gr.at_ := i64wrap (by omega) (by omega)
          cases hh : sA.had with
          | false =>
            have w : IntKind.i64.wrap ((at_ - gr.at_).tdiv 2) = (at_ - gr.at_) / 2 := by rw [tdiv_pos (by omega), i64wrap] <;> omega
            (refine CodeH.of_vc [] hm (by kernel_rfl) ?_; simp (config := { dsimp := false, maxSteps := 10000000 }) (disch := omega) only [go_sem, reduceIte, Nat.reduceEqDiff, reduceCtorEq, Nat.reduceAdd, Nat.reduceMul, Int.reduceToNat, Int.reduceLE, Int.reduceLT, Int.reduceEq, Int.reduceNe, Nat.reduceLeDiff, Int.reducePow, Nat.reducePow, Nat.reduceLT, Nat.reduceSub, Nat.reduceMod, Nat.reduceDiv, slot_neg, slot_pos, T.ag_3, T.ag_4, T.ag_57, T.ag_78, T.eb_22, T.es_39, T.es_57, T.ez_22, T.fo_42_0, T.fo_42_1, T.fo_59_0, T.fo_59_1, T.fo_59_10, T.fo_59_11, T.fo_59_2, T.fo_59_3, T.fo_59_4, T.fo_59_5, T.fo_59_6, T.fo_59_7, T.fo_59_8, T.fo_59_9, T.fo_78_0, T.fo_78_1, T.fo_78_2, T.fo_78_3, T.fo_78_4, T.gf_40, T.gf_41, T.gf_42, T.ib_3, T.ii_22, T.ii_39, T.ii_57, T.ip_3, T.pl_78, T.s8_22, T.s8_39, T.s8_57, T.sl_22, T.sl_39, T.sl_57, T.st_22, T.st_39, T.st_57, T.un_22, T.un_39, T.un_57, T.zo_78, init_a, p0, p1, p2, p3, p13, p14, p15, gm2, gg2, refC, wt, hh])
            have e7 : sampleS { sA with best := gr.num } (at_ - gr.at_) delay = { sA with best := gr.num, last := at_ - gr.at_, had := true, least := at_ - gr.at_, smooth := at_ - gr.at_, vary := (at_ - gr.at_) / 2 } := by simp only [sampleS, hh, Bool.false_eq_true, if_false]
            have hfin := fin (sampleS { sA with best := gr.num } (at_ - gr.at_) delay)
            have ec : refC wl2 (sampleS { sA with best := gr.num } (at_ - gr.at_) delay) = [wl2, .int .i64 gr.num, .int .i64 (at_ - gr.at_), .int .i64 ((at_ - gr.at_) / 2), .int .i64 (at_ - gr.at_), .int .i64 (at_ - gr.at_), .bool true, .int .i64 sA.window, .int .i64 sA.mark, .int .i64 sA.since, .int .i64 sA.tries, .int .i64 sA.now] := by rw [e7]; rfl
            rw [ec] at hfin
            refine draw_plan0 (.takeS 0 (.takeS 4 (.takeS 5 (.takeS 6 (.takeS 7 (.takeS 8 (.takeS 9 (.takeS 10 (.takeS 11 (.takeS 12 (.takeS 13 (.takeS 14 (.takeS 15 (.takeS 17 (.takeS 18 (.take 1 (.take 2 (.take 3 (.take 16 (.alt 19 (.takeS 20 (.takeS 21 (.alt 22 (.takeS 23 (.takeS 24 (.alt 25 (.takeS 26 (.takeS 27 (.alt 28 .done .stop))) .stop))) .stop))) .stop)))))))))))))))))))) hm (by kernel_rfl) (by kernel_rfl) ?_
            simp (config := { dsimp := false, maxSteps := 10000000 }) (disch := omega) only [go_sem, reduceIte, Nat.reduceEqDiff, reduceCtorEq, Nat.reduceAdd, Nat.reduceMul, Int.reduceToNat, Int.reduceLE, Int.reduceLT, Int.reduceEq, Int.reduceNe, Nat.reduceLeDiff, Int.reducePow, Nat.reducePow, Nat.reduceLT, Nat.reduceSub, Nat.reduceMod, Nat.reduceDiv, slot_neg, slot_pos, T.ag_3, T.ag_4, T.ag_57, T.ag_78, T.eb_22, T.es_39, T.es_57, T.ez_22, T.fo_42_0, T.fo_42_1, T.fo_59_0, T.fo_59_1, T.fo_59_10, T.fo_59_11, T.fo_59_2, T.fo_59_3, T.fo_59_4, T.fo_59_5, T.fo_59_6, T.fo_59_7, T.fo_59_8, T.fo_59_9, T.fo_78_0, T.fo_78_1, T.fo_78_2, T.fo_78_3, T.fo_78_4, T.gf_40, T.gf_41, T.gf_42, T.ib_3, T.ii_22, T.ii_39, T.ii_57, T.ip_3, T.pl_78, T.s8_22, T.s8_39, T.s8_57, T.sl_22, T.sl_39, T.sl_57, T.st_22, T.st_39, T.st_57, T.un_22, T.un_39, T.un_57, T.zo_78, p0, p1, p2, p3, p13, p14, p15, gm2, gg2, refC, wt, hh, w]
            simpa only [hh] using hfin
          | true =>
            (refine CodeH.of_vc [] hm (by kernel_rfl) ?_; simp (config := { dsimp := false, maxSteps := 10000000 }) (disch := omega) only [go_sem, reduceIte, Nat.reduceEqDiff, reduceCtorEq, Nat.reduceAdd, Nat.reduceMul, Int.reduceToNat, Int.reduceLE, Int.reduceLT, Int.reduceEq, Int.reduceNe, Nat.reduceLeDiff, Int.reducePow, Nat.reducePow, Nat.reduceLT, Nat.reduceSub, Nat.reduceMod, Nat.reduceDiv, slot_neg, slot_pos, T.ag_3, T.ag_4, T.ag_57, T.ag_78, T.eb_22, T.es_39, T.es_57, T.ez_22, T.fo_42_0, T.fo_42_1, T.fo_59_0, T.fo_59_1, T.fo_59_10, T.fo_59_11, T.fo_59_2, T.fo_59_3, T.fo_59_4, T.fo_59_5, T.fo_59_6, T.fo_59_7, T.fo_59_8, T.fo_59_9, T.fo_78_0, T.fo_78_1, T.fo_78_2, T.fo_78_3, T.fo_78_4, T.gf_40, T.gf_41, T.gf_42, T.ib_3, T.ii_22, T.ii_39, T.ii_57, T.ip_3, T.pl_78, T.s8_22, T.s8_39, T.s8_57, T.sl_22, T.sl_39, T.sl_57, T.st_22, T.st_39, T.st_57, T.un_22, T.un_39, T.un_57, T.zo_78, init_a, p0, p1, p2, p3, p13, p14, p15, gm2, gg2, refC, wt, hh])
            refine draw_plan0 (.takeS 0 (.takeS 1 (.takeS 2 (.takeS 3 (.takeS 4 (.takeS 5 (.takeS 6 (.takeS 7 (.takeS 8 (.takeS 9 (.takeS 10 (.takeS 11 (.alt 12 .done .stop))))))))))))) hm (by kernel_rfl) (by kernel_rfl) ?_
            obtain ⟨tr, htr⟩ : ∃ tr, at_ - gr.at_ = tr := ⟨_, rfl⟩
            rw [htr] at wt
            rw [htr]
            have htb : 0 ≤ tr ∧ tr ≤ 1099511627776 := by omega
            have b1 := okA.smooth
            have b2 := okA.vary
            have b3 := okA.least
            have hm1 : 0 ≤ min sA.least tr ∧ min sA.least tr ≤ tr := by omega
            have w0 : IntKind.i64.wrap (min sA.least tr + delay) = min sA.least tr + delay := i64wrap (by omega) (by omega)
            have w1 : IntKind.i64.wrap (tr - delay) = tr - delay := i64wrap (by omega) (by omega)
            by_cases hc : min sA.least tr + delay ≤ tr
            · have hc' : (min sA.least tr + delay ≤ tr) = True := eq_true hc
              by_cases hd : sA.smooth - (tr - delay) < 0
              · have hd' : (sA.smooth - (tr - delay) < 0) = True := eq_true hd
                obtain ⟨w2, w3, w4, w5, w6, w7, w8, w9⟩ := sample_w2 b1 b2 (t := tr - delay) (by omega) (M := 0 - (sA.smooth - (tr - delay))) (by omega)
                have e7 : sampleS { sA with best := gr.num } tr delay = { sA with best := gr.num, last := tr, least := min sA.least tr, vary := (3 * sA.vary + (0 - (sA.smooth - (tr - delay)))) / 4, smooth := (7 * sA.smooth + (tr - delay)) / 8 } := by
                  simp only [sampleS, hh, if_true, ge_iff_le, hc]
                  rw [show max (sA.smooth - (tr - delay)) (tr - delay - sA.smooth) = 0 - (sA.smooth - (tr - delay)) by omega]
                simp (config := { dsimp := false, maxSteps := 10000000 }) (disch := omega) only [go_sem, reduceIte, Nat.reduceEqDiff, reduceCtorEq, Nat.reduceAdd, Nat.reduceMul, Int.reduceToNat, Int.reduceLE, Int.reduceLT, Int.reduceEq, Int.reduceNe, Nat.reduceLeDiff, Int.reducePow, Nat.reducePow, Nat.reduceLT, Nat.reduceSub, Nat.reduceMod, Nat.reduceDiv, slot_neg, slot_pos, T.ag_3, T.ag_4, T.ag_57, T.ag_78, T.eb_22, T.es_39, T.es_57, T.ez_22, T.fo_42_0, T.fo_42_1, T.fo_59_0, T.fo_59_1, T.fo_59_10, T.fo_59_11, T.fo_59_2, T.fo_59_3, T.fo_59_4, T.fo_59_5, T.fo_59_6, T.fo_59_7, T.fo_59_8, T.fo_59_9, T.fo_78_0, T.fo_78_1, T.fo_78_2, T.fo_78_3, T.fo_78_4, T.gf_40, T.gf_41, T.gf_42, T.ib_3, T.ii_22, T.ii_39, T.ii_57, T.ip_3, T.pl_78, T.s8_22, T.s8_39, T.s8_57, T.sl_22, T.sl_39, T.sl_57, T.st_22, T.st_39, T.st_57, T.un_22, T.un_39, T.un_57, T.zo_78, p0, p1, p2, p3, p13, p14, p15, gm2, gg2, refC, wt, hh, minl, w0, w1, hc', hd', w2, w3, w4, w5, w6, w7, w8, w9]
                have hfin := fin (sampleS { sA with best := gr.num } tr delay)
                have ec : refC wl2 (sampleS { sA with best := gr.num } tr delay) = [wl2, .int .i64 gr.num, .int .i64 ((7 * sA.smooth + (tr - delay)) / 8), .int .i64 ((3 * sA.vary + (0 - (sA.smooth - (tr - delay)))) / 4), .int .i64 (min sA.least tr), .int .i64 tr, .bool true, .int .i64 sA.window, .int .i64 sA.mark, .int .i64 sA.since, .int .i64 sA.tries, .int .i64 sA.now] := by rw [e7]; simp only [refC, hh]
                rw [ec] at hfin
                simpa only [hh] using hfin
              · have hd' : (sA.smooth - (tr - delay) < 0) = False := eq_false hd
                obtain ⟨w2, w3, w4, w5, w6, w7, w8, w9⟩ := sample_w2 b1 b2 (t := tr - delay) (by omega) (M := sA.smooth - (tr - delay)) (by omega)
                have e7 : sampleS { sA with best := gr.num } tr delay = { sA with best := gr.num, last := tr, least := min sA.least tr, vary := (3 * sA.vary + (sA.smooth - (tr - delay))) / 4, smooth := (7 * sA.smooth + (tr - delay)) / 8 } := by
                  simp only [sampleS, hh, if_true, ge_iff_le, hc]
                  rw [show max (sA.smooth - (tr - delay)) (tr - delay - sA.smooth) = sA.smooth - (tr - delay) by omega]
                simp (config := { dsimp := false, maxSteps := 10000000 }) (disch := omega) only [go_sem, reduceIte, Nat.reduceEqDiff, reduceCtorEq, Nat.reduceAdd, Nat.reduceMul, Int.reduceToNat, Int.reduceLE, Int.reduceLT, Int.reduceEq, Int.reduceNe, Nat.reduceLeDiff, Int.reducePow, Nat.reducePow, Nat.reduceLT, Nat.reduceSub, Nat.reduceMod, Nat.reduceDiv, slot_neg, slot_pos, T.ag_3, T.ag_4, T.ag_57, T.ag_78, T.eb_22, T.es_39, T.es_57, T.ez_22, T.fo_42_0, T.fo_42_1, T.fo_59_0, T.fo_59_1, T.fo_59_10, T.fo_59_11, T.fo_59_2, T.fo_59_3, T.fo_59_4, T.fo_59_5, T.fo_59_6, T.fo_59_7, T.fo_59_8, T.fo_59_9, T.fo_78_0, T.fo_78_1, T.fo_78_2, T.fo_78_3, T.fo_78_4, T.gf_40, T.gf_41, T.gf_42, T.ib_3, T.ii_22, T.ii_39, T.ii_57, T.ip_3, T.pl_78, T.s8_22, T.s8_39, T.s8_57, T.sl_22, T.sl_39, T.sl_57, T.st_22, T.st_39, T.st_57, T.un_22, T.un_39, T.un_57, T.zo_78, p0, p1, p2, p3, p13, p14, p15, gm2, gg2, refC, wt, hh, minl, w0, w1, hc', hd', w2, w3, w4, w5, w6, w7, w8, w9]
                have hfin := fin (sampleS { sA with best := gr.num } tr delay)
                have ec : refC wl2 (sampleS { sA with best := gr.num } tr delay) = [wl2, .int .i64 gr.num, .int .i64 ((7 * sA.smooth + (tr - delay)) / 8), .int .i64 ((3 * sA.vary + (sA.smooth - (tr - delay))) / 4), .int .i64 (min sA.least tr), .int .i64 tr, .bool true, .int .i64 sA.window, .int .i64 sA.mark, .int .i64 sA.since, .int .i64 sA.tries, .int .i64 sA.now] := by rw [e7]; simp only [refC, hh]
                rw [ec] at hfin
                simpa only [hh] using hfin
            · have hc' : (min sA.least tr + delay ≤ tr) = False := eq_false hc
              by_cases hd : sA.smooth - tr < 0
              · have hd' : (sA.smooth - tr < 0) = True := eq_true hd
                obtain ⟨w2, w3, w4, w5, w6, w7, w8, w9⟩ := sample_w2 b1 b2 (t := tr) (by omega) (M := 0 - (sA.smooth - tr)) (by omega)
                have e7 : sampleS { sA with best := gr.num } tr delay = { sA with best := gr.num, last := tr, least := min sA.least tr, vary := (3 * sA.vary + (0 - (sA.smooth - tr))) / 4, smooth := (7 * sA.smooth + tr) / 8 } := by
                  simp only [sampleS, hh, if_true, ge_iff_le, hc, if_false]
                  rw [show max (sA.smooth - tr) (tr - sA.smooth) = 0 - (sA.smooth - tr) by omega]
                simp (config := { dsimp := false, maxSteps := 10000000 }) (disch := omega) only [go_sem, reduceIte, Nat.reduceEqDiff, reduceCtorEq, Nat.reduceAdd, Nat.reduceMul, Int.reduceToNat, Int.reduceLE, Int.reduceLT, Int.reduceEq, Int.reduceNe, Nat.reduceLeDiff, Int.reducePow, Nat.reducePow, Nat.reduceLT, Nat.reduceSub, Nat.reduceMod, Nat.reduceDiv, slot_neg, slot_pos, T.ag_3, T.ag_4, T.ag_57, T.ag_78, T.eb_22, T.es_39, T.es_57, T.ez_22, T.fo_42_0, T.fo_42_1, T.fo_59_0, T.fo_59_1, T.fo_59_10, T.fo_59_11, T.fo_59_2, T.fo_59_3, T.fo_59_4, T.fo_59_5, T.fo_59_6, T.fo_59_7, T.fo_59_8, T.fo_59_9, T.fo_78_0, T.fo_78_1, T.fo_78_2, T.fo_78_3, T.fo_78_4, T.gf_40, T.gf_41, T.gf_42, T.ib_3, T.ii_22, T.ii_39, T.ii_57, T.ip_3, T.pl_78, T.s8_22, T.s8_39, T.s8_57, T.sl_22, T.sl_39, T.sl_57, T.st_22, T.st_39, T.st_57, T.un_22, T.un_39, T.un_57, T.zo_78, p0, p1, p2, p3, p13, p14, p15, gm2, gg2, refC, wt, hh, minl, w0, w1, hc', hd', w2, w3, w4, w5, w6, w7, w8, w9]
                have hfin := fin (sampleS { sA with best := gr.num } tr delay)
                have ec : refC wl2 (sampleS { sA with best := gr.num } tr delay) = [wl2, .int .i64 gr.num, .int .i64 ((7 * sA.smooth + tr) / 8), .int .i64 ((3 * sA.vary + (0 - (sA.smooth - tr))) / 4), .int .i64 (min sA.least tr), .int .i64 tr, .bool true, .int .i64 sA.window, .int .i64 sA.mark, .int .i64 sA.since, .int .i64 sA.tries, .int .i64 sA.now] := by rw [e7]; simp only [refC, hh]
                rw [ec] at hfin
                simpa only [hh] using hfin
              · have hd' : (sA.smooth - tr < 0) = False := eq_false hd
                obtain ⟨w2, w3, w4, w5, w6, w7, w8, w9⟩ := sample_w2 b1 b2 (t := tr) (by omega) (M := sA.smooth - tr) (by omega)
                have e7 : sampleS { sA with best := gr.num } tr delay = { sA with best := gr.num, last := tr, least := min sA.least tr, vary := (3 * sA.vary + (sA.smooth - tr)) / 4, smooth := (7 * sA.smooth + tr) / 8 } := by
                  simp only [sampleS, hh, if_true, ge_iff_le, hc, if_false]
                  rw [show max (sA.smooth - tr) (tr - sA.smooth) = sA.smooth - tr by omega]
                simp (config := { dsimp := false, maxSteps := 10000000 }) (disch := omega) only [go_sem, reduceIte, Nat.reduceEqDiff, reduceCtorEq, Nat.reduceAdd, Nat.reduceMul, Int.reduceToNat, Int.reduceLE, Int.reduceLT, Int.reduceEq, Int.reduceNe, Nat.reduceLeDiff, Int.reducePow, Nat.reducePow, Nat.reduceLT, Nat.reduceSub, Nat.reduceMod, Nat.reduceDiv, slot_neg, slot_pos, T.ag_3, T.ag_4, T.ag_57, T.ag_78, T.eb_22, T.es_39, T.es_57, T.ez_22, T.fo_42_0, T.fo_42_1, T.fo_59_0, T.fo_59_1, T.fo_59_10, T.fo_59_11, T.fo_59_2, T.fo_59_3, T.fo_59_4, T.fo_59_5, T.fo_59_6, T.fo_59_7, T.fo_59_8, T.fo_59_9, T.fo_78_0, T.fo_78_1, T.fo_78_2, T.fo_78_3, T.fo_78_4, T.gf_40, T.gf_41, T.gf_42, T.ib_3, T.ii_22, T.ii_39, T.ii_57, T.ip_3, T.pl_78, T.s8_22, T.s8_39, T.s8_57, T.sl_22, T.sl_39, T.sl_57, T.st_22, T.st_39, T.st_57, T.un_22, T.un_39, T.un_57, T.zo_78, p0, p1, p2, p3, p13, p14, p15, gm2, gg2, refC, wt, hh, minl, w0, w1, hc', hd', w2, w3, w4, w5, w6, w7, w8, w9]
                have hfin := fin (sampleS { sA with best := gr.num } tr delay)
                have ec : refC wl2 (sampleS { sA with best := gr.num } tr delay) = [wl2, .int .i64 gr.num, .int .i64 ((7 * sA.smooth + tr) / 8), .int .i64 ((3 * sA.vary + (sA.smooth - tr)) / 4), .int .i64 (min sA.least tr), .int .i64 tr, .bool true, .int .i64 sA.window, .int .i64 sA.mark, .int .i64 sA.since, .int .i64 sA.tries, .int .i64 sA.now] := by rw [e7]; simp only [refC, hh]
                rw [ec] at hfin
                simpa only [hh] using hfin
      · have hmx : max sA.best gr.num = sA.best := by omega
        rw [hmx] at gm2 hR2
        have e6 : ack2 sA C delay at_ gr.pk = sA := by unfold ack2; rw [if_neg (show ¬ sA.best ≤ gr.pk.num from hb)]
        have c1 : (gr.num = sA.best) = False := eq_false (by omega)
        rw [e6]
        (refine CodeH.of_vc [] hm (by kernel_rfl) ?_; simp (config := { dsimp := false, maxSteps := 10000000 }) (disch := omega) only [go_sem, reduceIte, Nat.reduceEqDiff, reduceCtorEq, Nat.reduceAdd, Nat.reduceMul, Int.reduceToNat, Int.reduceLE, Int.reduceLT, Int.reduceEq, Int.reduceNe, Nat.reduceLeDiff, Int.reducePow, Nat.reducePow, Nat.reduceLT, Nat.reduceSub, Nat.reduceMod, Nat.reduceDiv, slot_neg, slot_pos, T.ag_3, T.ag_4, T.ag_57, T.ag_78, T.eb_22, T.es_39, T.es_57, T.ez_22, T.fo_42_0, T.fo_42_1, T.fo_59_0, T.fo_59_1, T.fo_59_10, T.fo_59_11, T.fo_59_2, T.fo_59_3, T.fo_59_4, T.fo_59_5, T.fo_59_6, T.fo_59_7, T.fo_59_8, T.fo_59_9, T.fo_78_0, T.fo_78_1, T.fo_78_2, T.fo_78_3, T.fo_78_4, T.gf_40, T.gf_41, T.gf_42, T.ib_3, T.ii_22, T.ii_39, T.ii_57, T.ip_3, T.pl_78, T.s8_22, T.s8_39, T.s8_57, T.sl_22, T.sl_39, T.sl_57, T.st_22, T.st_39, T.st_57, T.un_22, T.un_39, T.un_57, T.zo_78, init_a, p0, p1, p2, p3, p13, p14, p15, gm2, gg2, refC, c1])
        exact ⟨hR2, hU2, hO2⟩
    clear gg2 hR2 hU2 hO2
    rintro r H3 ⟨hR3, hU3, hO3, q0, q1, q2, q3, q13'⟩
    clear p0 p1 p2 p3 p13 p14 p15 hO1 hU q13
    obtain ⟨s4, hs4⟩ : ∃ s4, ack2 sA C delay at_ gr.pk = s4 := ⟨_, rfl⟩
    rw [hs4] at ok2 hR3 e5
    have okp : ∀ i : Nat, Ok (((waitsOf (L.take i)).filter f).foldl growS s4) := fun i => ok2.grows fun y hy => by
      have hy2 : y ∈ C := by
        rw [← hC]
        obtain ⟨hy3, hy4⟩ := List.mem_filter.1 hy
        obtain ⟨z, hz, e⟩ := List.mem_map.1 hy3
        obtain ⟨hz1, hz2⟩ := List.mem_filter.1 hz
        exact List.mem_filter.2 ⟨List.mem_map.2 ⟨z, List.mem_filter.2 ⟨List.mem_of_mem_take hz1, hz2⟩, e⟩, hy4⟩
      have := hCs y hy2
      omega
    refine CodeH.seq (fun r H => Upd h H (m :: D) ∧ RefR H m D (mid f L L.length) (C.foldl growS s4) ∧ OwnRow intE H v13 D1 (C.map (·.num)) ∧ r 0 = .pointer (some ⟨m, 0, none⟩) ∧ r 3 = .int .i64 at_ ∧ r 13 = v13) ?_ ?_
    · (refine CodeH.of_vc [] hm (by kernel_rfl) ?_; simp (config := { dsimp := false, maxSteps := 10000000 }) (disch := omega) only [go_sem, reduceIte, Nat.reduceEqDiff, reduceCtorEq, Nat.reduceAdd, Nat.reduceMul, Int.reduceToNat, Int.reduceLE, Int.reduceLT, Int.reduceEq, Int.reduceNe, Nat.reduceLeDiff, Int.reducePow, Nat.reducePow, Nat.reduceLT, Nat.reduceSub, Nat.reduceMod, Nat.reduceDiv, slot_neg, slot_pos, T.ag_3, T.ag_4, T.ag_57, T.ag_78, T.eb_22, T.es_39, T.es_57, T.ez_22, T.fo_42_0, T.fo_42_1, T.fo_59_0, T.fo_59_1, T.fo_59_10, T.fo_59_11, T.fo_59_2, T.fo_59_3, T.fo_59_4, T.fo_59_5, T.fo_59_6, T.fo_59_7, T.fo_59_8, T.fo_59_9, T.fo_78_0, T.fo_78_1, T.fo_78_2, T.fo_78_3, T.fo_78_4, T.gf_40, T.gf_41, T.gf_42, T.ib_3, T.ii_22, T.ii_39, T.ii_57, T.ip_3, T.pl_78, T.s8_22, T.s8_39, T.s8_57, T.sl_22, T.sl_39, T.sl_57, T.st_22, T.st_39, T.st_57, T.un_22, T.un_39, T.un_57, T.zo_78, init_a])
      refine loop_introC (fun r H => ∃ i : Nat, i ≤ L.length ∧ Upd h H (m :: D) ∧ RefR H m D (mid f L i) (((waitsOf (L.take i)).filter f).foldl growS s4) ∧ OwnRow intE H v13 D1 (C.map (·.num)) ∧ r 0 = .pointer (some ⟨m, 0, none⟩) ∧ r 1 = v ∧ r 3 = .int .i64 at_ ∧ r 13 = v13 ∧ r 20 = .int .i64 i) (fun r _ => match r 20 with | .int _ i => L.length - i.toNat | _ => 0) ?_ ?_
      · exact ⟨0, by omega, hU3, by rw [mid_zero]; exact hR3, hO3, by simp [upd, q0], by simp [upd, q1], by simp [upd, q3], by simp [upd, q13'], by simp [upd]⟩
      · clear q0 q1 q2 q3 q13' hU3 hR3 hO3
        rintro n hok r H ⟨i, hi, hU, hRi, hO1, q0, q1, q3, q13, q20⟩
        by_cases hil : i < L.length
        · have hlt' : ((i : Int) < (L.length : Int)) = True := eq_true (by omega)
          have hx0 : L[i]? = some L[i] := List.getElem?_eq_getElem hil
          have hmemC : (L[i].on && f L[i].pk) = true → L[i].pk ∈ C := fun e => by
            rw [Bool.and_eq_true] at e
            rw [← hC]; exact List.mem_filter.2 ⟨List.mem_map.2 ⟨_, List.mem_filter.2 ⟨List.getElem_mem _, e.1⟩, rfl⟩, e.2⟩
          generalize L[i] = x at hx0 hmemC
          have hx := mid_at (f := f) hx0
          obtain ⟨q, off, vs, hDq, hmn', hqn, hmq, gm, gq, hRV⟩ := hRi.own hx
          rw [mid_len] at gm
          have hat5 := hRV.at hx
          have j1 : List.take 5 (List.drop (off + i * 5) vs) = rpE.enc x := hat5.1
          have j2 : off + i * 5 + 5 ≤ vs.length := hat5.2
          have hen : rpE.enc x = [.int .i64 x.num, .int .i64 x.size, .bool x.asks, .int .i64 x.at_, .bool x.on] := rfl
          rw [hen] at j1
          have hta := waits_take hx0
          have oki := okp i
          obtain ⟨sp, hsp⟩ : ∃ sp, ((waitsOf (L.take i)).filter f).foldl growS s4 = sp := ⟨_, rfl⟩
          rw [hsp] at hRi gm oki
          refine CodeH.seq' (CodeH.of_vc [] hm (okl hok) ?_)
          replace hok := okr hok
          simp (config := { dsimp := false, maxSteps := 10000000 }) (disch := omega) only [go_sem, reduceIte, Nat.reduceEqDiff, reduceCtorEq, Nat.reduceAdd, Nat.reduceMul, Int.reduceToNat, Int.reduceLE, Int.reduceLT, Int.reduceEq, Int.reduceNe, Nat.reduceLeDiff, Int.reducePow, Nat.reducePow, Nat.reduceLT, Nat.reduceSub, Nat.reduceMod, Nat.reduceDiv, slot_neg, slot_pos, T.ag_3, T.ag_4, T.ag_57, T.ag_78, T.eb_22, T.es_39, T.es_57, T.ez_22, T.fo_42_0, T.fo_42_1, T.fo_59_0, T.fo_59_1, T.fo_59_10, T.fo_59_11, T.fo_59_2, T.fo_59_3, T.fo_59_4, T.fo_59_5, T.fo_59_6, T.fo_59_7, T.fo_59_8, T.fo_59_9, T.fo_78_0, T.fo_78_1, T.fo_78_2, T.fo_78_3, T.fo_78_4, T.gf_40, T.gf_41, T.gf_42, T.ib_3, T.ii_22, T.ii_39, T.ii_57, T.ip_3, T.pl_78, T.s8_22, T.s8_39, T.s8_57, T.sl_22, T.sl_39, T.sl_57, T.st_22, T.st_39, T.st_57, T.un_22, T.un_39, T.un_57, T.zo_78, q0, q20, gm, refC, hlt']
          refine CodeH.seq' (CodeH.block ?_)
          have hokb := okb (okl hok)
          replace hok := okr hok
          refine CodeH.seq' (CodeH.of_vc [] hm (okl hokb) ?_)
          replace hokb := okr hokb
          simp (config := { dsimp := false, maxSteps := 10000000 }) (disch := omega) only [go_sem, reduceIte, Nat.reduceEqDiff, reduceCtorEq, Nat.reduceAdd, Nat.reduceMul, Int.reduceToNat, Int.reduceLE, Int.reduceLT, Int.reduceEq, Int.reduceNe, Nat.reduceLeDiff, Int.reducePow, Nat.reducePow, Nat.reduceLT, Nat.reduceSub, Nat.reduceMod, Nat.reduceDiv, slot_neg, slot_pos, T.ag_3, T.ag_4, T.ag_57, T.ag_78, T.eb_22, T.es_39, T.es_57, T.ez_22, T.fo_42_0, T.fo_42_1, T.fo_59_0, T.fo_59_1, T.fo_59_10, T.fo_59_11, T.fo_59_2, T.fo_59_3, T.fo_59_4, T.fo_59_5, T.fo_59_6, T.fo_59_7, T.fo_59_8, T.fo_59_9, T.fo_78_0, T.fo_78_1, T.fo_78_2, T.fo_78_3, T.fo_78_4, T.gf_40, T.gf_41, T.gf_42, T.ib_3, T.ii_22, T.ii_39, T.ii_57, T.ip_3, T.pl_78, T.s8_22, T.s8_39, T.s8_57, T.sl_22, T.sl_39, T.sl_57, T.st_22, T.st_39, T.st_57, T.un_22, T.un_39, T.un_57, T.zo_78, q0, q20, gm, refC, hlt', gq, j1]
          refine ⟨j2, ?_⟩
          obtain ⟨Hp, hHp⟩ : ∃ Hp, (H.alloc (.cells [.int .i64 0, .int .i64 0, .bool false, .int .i64 0, .bool false] .own)).put H.next (.live (.cells [.int .i64 x.num, .int .i64 x.size, .bool x.asks, .int .i64 x.at_, .bool x.on] .own)) = Hp := ⟨_, rfl⟩
          rw [hHp]
          have gpp : Hp.get H.next = .live (.cells [.int .i64 x.num, .int .i64 x.size, .bool x.asks, .int .i64 x.at_, .bool x.on] .own) := by rw [← hHp, get_put, if_pos rfl]
          have np : Hp.next = H.next + 1 := by rw [← hHp]; rfl
          have uP : Upd H Hp [] := by rw [← hHp]; exact (Upd.alloc _ _ _).put (.inr (Nat.le_refl _))
          have gmp := (uP.2 m hmn' (by simp)).trans gm
          have gqp := (uP.2 q hqn (by simp)).trans gq
          clear hHp
          have uhp := hU.trans uP (by simp)
          have hrp : RowIn spE Hp v l := hr.upd fun A n st e => by
            obtain ⟨k1, k2, k3⟩ := hlt A n st e
            exact uhp.2 _ k1 (by simp; exact ⟨k2, k3⟩)
          have w3 : IntKind.i64.wrap ((i : Int) + 1) = ((i + 1 : Nat) : Int) := by rw [i64wrap] <;> omega
          have hO1p := hO1.upd uP (by simp)
          have hRp := hRi.upd uP (by simp) (by simp)
          have hno : (x.on && f x.pk) = false → Upd h Hp (m :: D) ∧ RefR Hp m D (mid f L (i + 1)) (((waitsOf (L.take (i + 1))).filter f).foldl growS s4) ∧ OwnRow intE Hp v13 D1 (C.map (·.num)) := fun hsel => by
            have e1 : offX f x = x := by unfold offX; rw [hsel]; rfl
            have e2 : mid f L (i + 1) = mid f L i := by
              rw [mid_next hx0, e1]
              obtain ⟨hi2, e⟩ := List.getElem?_eq_some_iff.1 hx
              conv => lhs; rw [← e]
              exact List.set_getElem_self hi2
            have e3 : (waitsOf (L.take (i + 1))).filter f = (waitsOf (L.take i)).filter f := by
              rw [hta, List.filter_append]
              cases ho : x.on with
              | false => simp
              | true =>
                rw [ho, Bool.true_and] at hsel
                simp [hsel]
            rw [e2, e3, hsp]
            exact ⟨uhp, hRp, hO1p⟩
          refine CodeH.seq (fun r' H' => Hp = H' ∧ r' 0 = .pointer (some ⟨m, 0, none⟩) ∧ r' 1 = v ∧ r' 3 = .int .i64 at_ ∧ r' 13 = v13 ∧ r' 20 = .int .i64 i ∧ r' 21 = .pointer (some ⟨H.next, 0, none⟩) ∧ (x.on && f x.pk) = true) (CodeH.of_vc [] hm (okl hokb) ?_) ?_
          · cases ho : x.on with
            | false =>
              rw [ho] at gpp
              simp (config := { dsimp := false, maxSteps := 10000000 }) (disch := omega) only [go_sem, reduceIte, Nat.reduceEqDiff, reduceCtorEq, Nat.reduceAdd, Nat.reduceMul, Int.reduceToNat, Int.reduceLE, Int.reduceLT, Int.reduceEq, Int.reduceNe, Nat.reduceLeDiff, Int.reducePow, Nat.reducePow, Nat.reduceLT, Nat.reduceSub, Nat.reduceMod, Nat.reduceDiv, slot_neg, slot_pos, T.ag_3, T.ag_4, T.ag_57, T.ag_78, T.eb_22, T.es_39, T.es_57, T.ez_22, T.fo_42_0, T.fo_42_1, T.fo_59_0, T.fo_59_1, T.fo_59_10, T.fo_59_11, T.fo_59_2, T.fo_59_3, T.fo_59_4, T.fo_59_5, T.fo_59_6, T.fo_59_7, T.fo_59_8, T.fo_59_9, T.fo_78_0, T.fo_78_1, T.fo_78_2, T.fo_78_3, T.fo_78_4, T.gf_40, T.gf_41, T.gf_42, T.ib_3, T.ii_22, T.ii_39, T.ii_57, T.ip_3, T.pl_78, T.s8_22, T.s8_39, T.s8_57, T.sl_22, T.sl_39, T.sl_57, T.st_22, T.st_39, T.st_57, T.un_22, T.un_39, T.un_57, T.zo_78, q0, q1, q3, q13, q20, gpp]
              refine CodeH.of_vc [] hm hok ?_
              simp (config := { dsimp := false, maxSteps := 10000000 }) (disch := omega) only [go_sem, reduceIte, Nat.reduceEqDiff, reduceCtorEq, Nat.reduceAdd, Nat.reduceMul, Int.reduceToNat, Int.reduceLE, Int.reduceLT, Int.reduceEq, Int.reduceNe, Nat.reduceLeDiff, Int.reducePow, Nat.reducePow, Nat.reduceLT, Nat.reduceSub, Nat.reduceMod, Nat.reduceDiv, slot_neg, slot_pos, T.ag_3, T.ag_4, T.ag_57, T.ag_78, T.eb_22, T.es_39, T.es_57, T.ez_22, T.fo_42_0, T.fo_42_1, T.fo_59_0, T.fo_59_1, T.fo_59_10, T.fo_59_11, T.fo_59_2, T.fo_59_3, T.fo_59_4, T.fo_59_5, T.fo_59_6, T.fo_59_7, T.fo_59_8, T.fo_59_9, T.fo_78_0, T.fo_78_1, T.fo_78_2, T.fo_78_3, T.fo_78_4, T.gf_40, T.gf_41, T.gf_42, T.ib_3, T.ii_22, T.ii_39, T.ii_57, T.ip_3, T.pl_78, T.s8_22, T.s8_39, T.s8_57, T.sl_22, T.sl_39, T.sl_57, T.st_22, T.st_39, T.st_57, T.un_22, T.un_39, T.un_57, T.zo_78, q0, q1, q3, q13, q20, w3]
              obtain ⟨n1, n2, n3⟩ := hno (by rw [ho]; rfl)
              exact ⟨⟨i + 1, hil, n1, n2, n3, rfl⟩, by omega⟩
            | true =>
              rw [ho] at gpp
              simp (config := { dsimp := false, maxSteps := 10000000 }) (disch := omega) only [go_sem, reduceIte, Nat.reduceEqDiff, reduceCtorEq, Nat.reduceAdd, Nat.reduceMul, Int.reduceToNat, Int.reduceLE, Int.reduceLT, Int.reduceEq, Int.reduceNe, Nat.reduceLeDiff, Int.reducePow, Nat.reducePow, Nat.reduceLT, Nat.reduceSub, Nat.reduceMod, Nat.reduceDiv, slot_neg, slot_pos, T.ag_3, T.ag_4, T.ag_57, T.ag_78, T.eb_22, T.es_39, T.es_57, T.ez_22, T.fo_42_0, T.fo_42_1, T.fo_59_0, T.fo_59_1, T.fo_59_10, T.fo_59_11, T.fo_59_2, T.fo_59_3, T.fo_59_4, T.fo_59_5, T.fo_59_6, T.fo_59_7, T.fo_59_8, T.fo_59_9, T.fo_78_0, T.fo_78_1, T.fo_78_2, T.fo_78_3, T.fo_78_4, T.gf_40, T.gf_41, T.gf_42, T.ib_3, T.ii_22, T.ii_39, T.ii_57, T.ip_3, T.pl_78, T.s8_22, T.s8_39, T.s8_57, T.sl_22, T.sl_39, T.sl_57, T.st_22, T.st_39, T.st_57, T.un_22, T.un_39, T.un_57, T.zo_78, q0, q1, q3, q13, q20, gpp]
              refine CallsH.pure _ rfl (within_ph _ v l x.num hrp.ro (by omega)) ?_
              rw [show x.num = x.pk.num from rfl, hfx]
              cases hfp : f x.pk with
              | false =>
                simp (config := { dsimp := false, maxSteps := 10000000 }) (disch := omega) only [go_sem, reduceIte, Nat.reduceEqDiff, reduceCtorEq, Nat.reduceAdd, Nat.reduceMul, Int.reduceToNat, Int.reduceLE, Int.reduceLT, Int.reduceEq, Int.reduceNe, Nat.reduceLeDiff, Int.reducePow, Nat.reducePow, Nat.reduceLT, Nat.reduceSub, Nat.reduceMod, Nat.reduceDiv, slot_neg, slot_pos, T.ag_3, T.ag_4, T.ag_57, T.ag_78, T.eb_22, T.es_39, T.es_57, T.ez_22, T.fo_42_0, T.fo_42_1, T.fo_59_0, T.fo_59_1, T.fo_59_10, T.fo_59_11, T.fo_59_2, T.fo_59_3, T.fo_59_4, T.fo_59_5, T.fo_59_6, T.fo_59_7, T.fo_59_8, T.fo_59_9, T.fo_78_0, T.fo_78_1, T.fo_78_2, T.fo_78_3, T.fo_78_4, T.gf_40, T.gf_41, T.gf_42, T.ib_3, T.ii_22, T.ii_39, T.ii_57, T.ip_3, T.pl_78, T.s8_22, T.s8_39, T.s8_57, T.sl_22, T.sl_39, T.sl_57, T.st_22, T.st_39, T.st_57, T.un_22, T.un_39, T.un_57, T.zo_78, q0, q1, q3, q13, q20, gpp]
                refine CodeH.of_vc [] hm hok ?_
                simp (config := { dsimp := false, maxSteps := 10000000 }) (disch := omega) only [go_sem, reduceIte, Nat.reduceEqDiff, reduceCtorEq, Nat.reduceAdd, Nat.reduceMul, Int.reduceToNat, Int.reduceLE, Int.reduceLT, Int.reduceEq, Int.reduceNe, Nat.reduceLeDiff, Int.reducePow, Nat.reducePow, Nat.reduceLT, Nat.reduceSub, Nat.reduceMod, Nat.reduceDiv, slot_neg, slot_pos, T.ag_3, T.ag_4, T.ag_57, T.ag_78, T.eb_22, T.es_39, T.es_57, T.ez_22, T.fo_42_0, T.fo_42_1, T.fo_59_0, T.fo_59_1, T.fo_59_10, T.fo_59_11, T.fo_59_2, T.fo_59_3, T.fo_59_4, T.fo_59_5, T.fo_59_6, T.fo_59_7, T.fo_59_8, T.fo_59_9, T.fo_78_0, T.fo_78_1, T.fo_78_2, T.fo_78_3, T.fo_78_4, T.gf_40, T.gf_41, T.gf_42, T.ib_3, T.ii_22, T.ii_39, T.ii_57, T.ip_3, T.pl_78, T.s8_22, T.s8_39, T.s8_57, T.sl_22, T.sl_39, T.sl_57, T.st_22, T.st_39, T.st_57, T.un_22, T.un_39, T.un_57, T.zo_78, q0, q1, q3, q13, q20, w3]
                obtain ⟨n1, n2, n3⟩ := hno (by rw [ho, hfp]; rfl)
                exact ⟨⟨i + 1, hil, n1, n2, n3, rfl⟩, by omega⟩
              | true =>
                simp (config := { dsimp := false, maxSteps := 10000000 }) (disch := omega) only [go_sem, reduceIte, Nat.reduceEqDiff, reduceCtorEq, Nat.reduceAdd, Nat.reduceMul, Int.reduceToNat, Int.reduceLE, Int.reduceLT, Int.reduceEq, Int.reduceNe, Nat.reduceLeDiff, Int.reducePow, Nat.reducePow, Nat.reduceLT, Nat.reduceSub, Nat.reduceMod, Nat.reduceDiv, slot_neg, slot_pos, T.ag_3, T.ag_4, T.ag_57, T.ag_78, T.eb_22, T.es_39, T.es_57, T.ez_22, T.fo_42_0, T.fo_42_1, T.fo_59_0, T.fo_59_1, T.fo_59_10, T.fo_59_11, T.fo_59_2, T.fo_59_3, T.fo_59_4, T.fo_59_5, T.fo_59_6, T.fo_59_7, T.fo_59_8, T.fo_59_9, T.fo_78_0, T.fo_78_1, T.fo_78_2, T.fo_78_3, T.fo_78_4, T.gf_40, T.gf_41, T.gf_42, T.ib_3, T.ii_22, T.ii_39, T.ii_57, T.ip_3, T.pl_78, T.s8_22, T.s8_39, T.s8_57, T.sl_22, T.sl_39, T.sl_57, T.st_22, T.st_39, T.st_57, T.un_22, T.un_39, T.un_57, T.zo_78, q0, q1, q3, q13, q20, gpp]
                all_goals simp
          · rintro r' H' ⟨hH, z0, z1, z3, z13, z20, z21, hsel⟩
            subst hH
            have hokd := okr hokb
            have e1 : offX f x = { x with on := false } := by unfold offX; rw [hsel]; rfl
            have hxC := hCs _ (hmemC hsel)
            simp only [RP.pk] at hxC
            have e3 : ((waitsOf (L.take (i + 1))).filter f).foldl growS s4 = growS sp x.pk := by
              have hs2 := hsel
              rw [Bool.and_eq_true] at hs2
              rw [hta, List.filter_append, hs2.1, if_pos rfl, List.filter_cons, if_pos hs2.2, List.filter_nil, List.foldl_append, hsp]
              rfl
            have hq4 : off + i * 5 + 4 < vs.length := by omega
            refine CodeH.seq' (CodeH.of_vc [] hm (okl hokd) ?_)
            replace hokd := okr hokd
            simp (config := { dsimp := false, maxSteps := 10000000 }) (disch := omega) only [go_sem, reduceIte, Nat.reduceEqDiff, reduceCtorEq, Nat.reduceAdd, Nat.reduceMul, Int.reduceToNat, Int.reduceLE, Int.reduceLT, Int.reduceEq, Int.reduceNe, Nat.reduceLeDiff, Int.reducePow, Nat.reducePow, Nat.reduceLT, Nat.reduceSub, Nat.reduceMod, Nat.reduceDiv, slot_neg, slot_pos, T.ag_3, T.ag_4, T.ag_57, T.ag_78, T.eb_22, T.es_39, T.es_57, T.ez_22, T.fo_42_0, T.fo_42_1, T.fo_59_0, T.fo_59_1, T.fo_59_10, T.fo_59_11, T.fo_59_2, T.fo_59_3, T.fo_59_4, T.fo_59_5, T.fo_59_6, T.fo_59_7, T.fo_59_8, T.fo_59_9, T.fo_78_0, T.fo_78_1, T.fo_78_2, T.fo_78_3, T.fo_78_4, T.gf_40, T.gf_41, T.gf_42, T.ib_3, T.ii_22, T.ii_39, T.ii_57, T.ip_3, T.pl_78, T.s8_22, T.s8_39, T.s8_57, T.sl_22, T.sl_39, T.sl_57, T.st_22, T.st_39, T.st_57, T.un_22, T.un_39, T.un_57, T.zo_78, z0, z20, gmp, refC, gqp, hlt']
            refine ⟨hq4, ?_⟩
            obtain ⟨Hs, hHs⟩ : ∃ Hs, Hp.put q (.live (.cells (vs.set (off + i * 5 + 4) (.bool false)) .own)) = Hs := ⟨_, rfl⟩
            rw [hHs]
            have gps : Hs.get H.next = .live (.cells [.int .i64 x.num, .int .i64 x.size, .bool x.asks, .int .i64 x.at_, .bool x.on] .own) := by rw [← hHs, get_put, if_neg (by omega)]; exact gpp
            have gqs : Hs.get q = .live (.cells (vs.set (off + i * 5 + 4) (.bool false)) .own) := by rw [← hHs, get_put, if_pos rfl]
            have gms : Hs.get m = .live (.cells (refC (.slice (some ⟨q, off, none⟩) L.length 5) sp) .own) := by rw [← hHs, get_put, if_neg hmq]; exact gmp
            have ns : Hs.next = H.next + 1 := by rw [← hHs, next_put]; exact np
            have uS : Upd H Hs [q] := by rw [← hHs]; exact (uP.mono (by simp)).put (.inl (by simp))
            clear hHs
            have hql : q < h.next := hlD q (by rw [hDq]; simp)
            have hOs : OwnRow rpE Hs (.slice (some ⟨q, off, none⟩) L.length 5) D (mid f L (i + 1)) := by
              refine .inr ⟨q, off, _, hDq, by omega, by rw [mid_len]; rfl, gqs, ?_⟩
              rw [mid_next hx0]
              exact hRV.setj (j := 4) hx (by decide) (by rw [e1]; rfl)
            have hU3 : Upd h Hs (m :: D) := hU.trans uS fun d hd => .inl (by simp at hd; rw [hd, hDq]; simp)
            have hO1s : OwnRow intE Hs v13 D1 (C.map (·.num)) := hO1.upd uS fun d hd => by have := hD1 d hd; simp; omega
            have fin : ∀ s' : St, Upd h (Hs.put m (.live (.cells (refC (.slice (some ⟨q, off, none⟩) L.length 5) s') .own))) (m :: D) ∧ RefR (Hs.put m (.live (.cells (refC (.slice (some ⟨q, off, none⟩) L.length 5) s') .own))) m D (mid f L (i + 1)) s' ∧ OwnRow intE (Hs.put m (.live (.cells (refC (.slice (some ⟨q, off, none⟩) L.length 5) s') .own))) v13 D1 (C.map (·.num)) := fun s' =>
              ⟨hU3.put (.inl (by simp)), RefR.put (by omega) hmD hOs, hO1s.upd (F := [m]) ((Upd.refl _ _).put (.inl (by simp))) (fun d hd => by simp; exact hD1m d hd)⟩
            have fin0 : Upd h Hs (m :: D) ∧ RefR Hs m D (mid f L (i + 1)) sp ∧ OwnRow intE Hs v13 D1 (C.map (·.num)) := ⟨hU3, ⟨by omega, hmD, _, gms, hOs⟩, hO1s⟩
            have bw := oki.window
            refine CodeH.of_vc [] hm hokd ?_
            by_cases hc : x.asks = false ∨ x.at_ ≤ sp.since ∨ 1073741824 < sp.window
            · have e7 : growS sp x.pk = sp := by unfold growS; rw [if_pos (show x.pk.asks = false ∨ x.pk.at_ ≤ sp.since ∨ 1073741824 < sp.window from hc)]
              have fin1 : ∃ i_1 : Nat, i_1 ≤ L.length ∧ Upd h Hs (m :: D) ∧ RefR Hs m D (mid f L i_1) (((waitsOf (L.take i_1)).filter f).foldl growS s4) ∧ OwnRow intE Hs v13 D1 (C.map (·.num)) ∧ Value.int .i64 ((i + 1 : Nat) : Int) = .int .i64 (i_1 : Int) := ⟨i + 1, hil, fin0.1, by rw [e3, e7]; exact fin0.2.1, fin0.2.2, rfl⟩
              by_cases ka : x.asks = false
              · rw [ka] at gps
                simp (config := { dsimp := false, maxSteps := 10000000 }) (disch := omega) only [go_sem, reduceIte, Nat.reduceEqDiff, reduceCtorEq, Nat.reduceAdd, Nat.reduceMul, Int.reduceToNat, Int.reduceLE, Int.reduceLT, Int.reduceEq, Int.reduceNe, Nat.reduceLeDiff, Int.reducePow, Nat.reducePow, Nat.reduceLT, Nat.reduceSub, Nat.reduceMod, Nat.reduceDiv, slot_neg, slot_pos, T.ag_3, T.ag_4, T.ag_57, T.ag_78, T.eb_22, T.es_39, T.es_57, T.ez_22, T.fo_42_0, T.fo_42_1, T.fo_59_0, T.fo_59_1, T.fo_59_10, T.fo_59_11, T.fo_59_2, T.fo_59_3, T.fo_59_4, T.fo_59_5, T.fo_59_6, T.fo_59_7, T.fo_59_8, T.fo_59_9, T.fo_78_0, T.fo_78_1, T.fo_78_2, T.fo_78_3, T.fo_78_4, T.gf_40, T.gf_41, T.gf_42, T.ib_3, T.ii_22, T.ii_39, T.ii_57, T.ip_3, T.pl_78, T.s8_22, T.s8_39, T.s8_57, T.sl_22, T.sl_39, T.sl_57, T.st_22, T.st_39, T.st_57, T.un_22, T.un_39, T.un_57, T.zo_78, z0, z21, gps, gms, refC]
                refine CodeH.of_vc [] hm hok ?_
                simp (config := { dsimp := false, maxSteps := 10000000 }) (disch := omega) only [go_sem, reduceIte, Nat.reduceEqDiff, reduceCtorEq, Nat.reduceAdd, Nat.reduceMul, Int.reduceToNat, Int.reduceLE, Int.reduceLT, Int.reduceEq, Int.reduceNe, Nat.reduceLeDiff, Int.reducePow, Nat.reducePow, Nat.reduceLT, Nat.reduceSub, Nat.reduceMod, Nat.reduceDiv, slot_neg, slot_pos, T.ag_3, T.ag_4, T.ag_57, T.ag_78, T.eb_22, T.es_39, T.es_57, T.ez_22, T.fo_42_0, T.fo_42_1, T.fo_59_0, T.fo_59_1, T.fo_59_10, T.fo_59_11, T.fo_59_2, T.fo_59_3, T.fo_59_4, T.fo_59_5, T.fo_59_6, T.fo_59_7, T.fo_59_8, T.fo_59_9, T.fo_78_0, T.fo_78_1, T.fo_78_2, T.fo_78_3, T.fo_78_4, T.gf_40, T.gf_41, T.gf_42, T.ib_3, T.ii_22, T.ii_39, T.ii_57, T.ip_3, T.pl_78, T.s8_22, T.s8_39, T.s8_57, T.sl_22, T.sl_39, T.sl_57, T.st_22, T.st_39, T.st_57, T.un_22, T.un_39, T.un_57, T.zo_78, z0, z1, z3, z13, z20, w3, q20]
                exact ⟨fin1, by omega⟩
              · have ka' : x.asks = true := by cases hh : x.asks <;> simp_all
                rw [ka'] at gps
                by_cases kb : x.at_ ≤ sp.since
                · have kb' : (sp.since < x.at_) = False := eq_false (by omega)
                  simp (config := { dsimp := false, maxSteps := 10000000 }) (disch := omega) only [go_sem, reduceIte, Nat.reduceEqDiff, reduceCtorEq, Nat.reduceAdd, Nat.reduceMul, Int.reduceToNat, Int.reduceLE, Int.reduceLT, Int.reduceEq, Int.reduceNe, Nat.reduceLeDiff, Int.reducePow, Nat.reducePow, Nat.reduceLT, Nat.reduceSub, Nat.reduceMod, Nat.reduceDiv, slot_neg, slot_pos, T.ag_3, T.ag_4, T.ag_57, T.ag_78, T.eb_22, T.es_39, T.es_57, T.ez_22, T.fo_42_0, T.fo_42_1, T.fo_59_0, T.fo_59_1, T.fo_59_10, T.fo_59_11, T.fo_59_2, T.fo_59_3, T.fo_59_4, T.fo_59_5, T.fo_59_6, T.fo_59_7, T.fo_59_8, T.fo_59_9, T.fo_78_0, T.fo_78_1, T.fo_78_2, T.fo_78_3, T.fo_78_4, T.gf_40, T.gf_41, T.gf_42, T.ib_3, T.ii_22, T.ii_39, T.ii_57, T.ip_3, T.pl_78, T.s8_22, T.s8_39, T.s8_57, T.sl_22, T.sl_39, T.sl_57, T.st_22, T.st_39, T.st_57, T.un_22, T.un_39, T.un_57, T.zo_78, z0, z21, gps, gms, refC, kb']
                  refine CodeH.of_vc [] hm hok ?_
                  simp (config := { dsimp := false, maxSteps := 10000000 }) (disch := omega) only [go_sem, reduceIte, Nat.reduceEqDiff, reduceCtorEq, Nat.reduceAdd, Nat.reduceMul, Int.reduceToNat, Int.reduceLE, Int.reduceLT, Int.reduceEq, Int.reduceNe, Nat.reduceLeDiff, Int.reducePow, Nat.reducePow, Nat.reduceLT, Nat.reduceSub, Nat.reduceMod, Nat.reduceDiv, slot_neg, slot_pos, T.ag_3, T.ag_4, T.ag_57, T.ag_78, T.eb_22, T.es_39, T.es_57, T.ez_22, T.fo_42_0, T.fo_42_1, T.fo_59_0, T.fo_59_1, T.fo_59_10, T.fo_59_11, T.fo_59_2, T.fo_59_3, T.fo_59_4, T.fo_59_5, T.fo_59_6, T.fo_59_7, T.fo_59_8, T.fo_59_9, T.fo_78_0, T.fo_78_1, T.fo_78_2, T.fo_78_3, T.fo_78_4, T.gf_40, T.gf_41, T.gf_42, T.ib_3, T.ii_22, T.ii_39, T.ii_57, T.ip_3, T.pl_78, T.s8_22, T.s8_39, T.s8_57, T.sl_22, T.sl_39, T.sl_57, T.st_22, T.st_39, T.st_57, T.un_22, T.un_39, T.un_57, T.zo_78, z0, z1, z3, z13, z20, w3, q20]
                  exact ⟨fin1, by omega⟩
                · have kb' : (sp.since < x.at_) = True := eq_true (by omega)
                  have kc : ¬ sp.window ≤ 1073741824 := by
                    rcases hc with h1 | h1 | h1
                    · exact absurd h1 ka
                    · exact absurd h1 kb
                    · omega
                  have kc' : (sp.window ≤ 1073741824) = False := eq_false kc
                  simp (config := { dsimp := false, maxSteps := 10000000 }) (disch := omega) only [go_sem, reduceIte, Nat.reduceEqDiff, reduceCtorEq, Nat.reduceAdd, Nat.reduceMul, Int.reduceToNat, Int.reduceLE, Int.reduceLT, Int.reduceEq, Int.reduceNe, Nat.reduceLeDiff, Int.reducePow, Nat.reducePow, Nat.reduceLT, Nat.reduceSub, Nat.reduceMod, Nat.reduceDiv, slot_neg, slot_pos, T.ag_3, T.ag_4, T.ag_57, T.ag_78, T.eb_22, T.es_39, T.es_57, T.ez_22, T.fo_42_0, T.fo_42_1, T.fo_59_0, T.fo_59_1, T.fo_59_10, T.fo_59_11, T.fo_59_2, T.fo_59_3, T.fo_59_4, T.fo_59_5, T.fo_59_6, T.fo_59_7, T.fo_59_8, T.fo_59_9, T.fo_78_0, T.fo_78_1, T.fo_78_2, T.fo_78_3, T.fo_78_4, T.gf_40, T.gf_41, T.gf_42, T.ib_3, T.ii_22, T.ii_39, T.ii_57, T.ip_3, T.pl_78, T.s8_22, T.s8_39, T.s8_57, T.sl_22, T.sl_39, T.sl_57, T.st_22, T.st_39, T.st_57, T.un_22, T.un_39, T.un_57, T.zo_78, z0, z21, gps, gms, refC, kb', kc']
                  refine CodeH.of_vc [] hm hok ?_
                  simp (config := { dsimp := false, maxSteps := 10000000 }) (disch := omega) only [go_sem, reduceIte, Nat.reduceEqDiff, reduceCtorEq, Nat.reduceAdd, Nat.reduceMul, Int.reduceToNat, Int.reduceLE, Int.reduceLT, Int.reduceEq, Int.reduceNe, Nat.reduceLeDiff, Int.reducePow, Nat.reducePow, Nat.reduceLT, Nat.reduceSub, Nat.reduceMod, Nat.reduceDiv, slot_neg, slot_pos, T.ag_3, T.ag_4, T.ag_57, T.ag_78, T.eb_22, T.es_39, T.es_57, T.ez_22, T.fo_42_0, T.fo_42_1, T.fo_59_0, T.fo_59_1, T.fo_59_10, T.fo_59_11, T.fo_59_2, T.fo_59_3, T.fo_59_4, T.fo_59_5, T.fo_59_6, T.fo_59_7, T.fo_59_8, T.fo_59_9, T.fo_78_0, T.fo_78_1, T.fo_78_2, T.fo_78_3, T.fo_78_4, T.gf_40, T.gf_41, T.gf_42, T.ib_3, T.ii_22, T.ii_39, T.ii_57, T.ip_3, T.pl_78, T.s8_22, T.s8_39, T.s8_57, T.sl_22, T.sl_39, T.sl_57, T.st_22, T.st_39, T.st_57, T.un_22, T.un_39, T.un_57, T.zo_78, z0, z1, z3, z13, z20, w3, q20]
                  exact ⟨fin1, by omega⟩
            · have ka' : x.asks = true := by cases hh : x.asks <;> simp_all
              rw [ka'] at gps
              have kb' : (sp.since < x.at_) = True := eq_true (by omega)
              have kw : sp.window ≤ 1073741824 := Int.not_lt.1 fun h1 => hc (.inr (.inr h1))
              have kc' : (sp.window ≤ 1073741824) = True := eq_true kw
              by_cases kd : sp.window < sp.mark
              · have kd' : (sp.window < sp.mark) = True := eq_true kd
                have e7 : growS sp x.pk = { sp with window := sp.window + x.size } := by unfold growS; rw [if_neg (show ¬ (x.pk.asks = false ∨ x.pk.at_ ≤ sp.since ∨ 1073741824 < sp.window) from hc), if_pos kd]; rfl
                have w5 : IntKind.i64.wrap (sp.window + x.size) = sp.window + x.size := i64wrap (by omega) (by omega)
                simp (config := { dsimp := false, maxSteps := 10000000 }) (disch := omega) only [go_sem, reduceIte, Nat.reduceEqDiff, reduceCtorEq, Nat.reduceAdd, Nat.reduceMul, Int.reduceToNat, Int.reduceLE, Int.reduceLT, Int.reduceEq, Int.reduceNe, Nat.reduceLeDiff, Int.reducePow, Nat.reducePow, Nat.reduceLT, Nat.reduceSub, Nat.reduceMod, Nat.reduceDiv, slot_neg, slot_pos, T.ag_3, T.ag_4, T.ag_57, T.ag_78, T.eb_22, T.es_39, T.es_57, T.ez_22, T.fo_42_0, T.fo_42_1, T.fo_59_0, T.fo_59_1, T.fo_59_10, T.fo_59_11, T.fo_59_2, T.fo_59_3, T.fo_59_4, T.fo_59_5, T.fo_59_6, T.fo_59_7, T.fo_59_8, T.fo_59_9, T.fo_78_0, T.fo_78_1, T.fo_78_2, T.fo_78_3, T.fo_78_4, T.gf_40, T.gf_41, T.gf_42, T.ib_3, T.ii_22, T.ii_39, T.ii_57, T.ip_3, T.pl_78, T.s8_22, T.s8_39, T.s8_57, T.sl_22, T.sl_39, T.sl_57, T.st_22, T.st_39, T.st_57, T.un_22, T.un_39, T.un_57, T.zo_78, z0, z21, gps, gms, refC, kb', kc', kd']
                refine draw_plan0 (.takeS 0 (.takeS 1 (.takeS 2 (.takeS 3 (.takeS 4 (.takeS 5 (.takeS 6 (.takeS 7 (.takeS 8 (.takeS 9 (.alt 10 .done .stop))))))))))) hm (by kernel_rfl) (by kernel_rfl) ?_
                simp (config := { dsimp := false, maxSteps := 10000000 }) (disch := omega) only [go_sem, reduceIte, Nat.reduceEqDiff, reduceCtorEq, Nat.reduceAdd, Nat.reduceMul, Int.reduceToNat, Int.reduceLE, Int.reduceLT, Int.reduceEq, Int.reduceNe, Nat.reduceLeDiff, Int.reducePow, Nat.reducePow, Nat.reduceLT, Nat.reduceSub, Nat.reduceMod, Nat.reduceDiv, slot_neg, slot_pos, T.ag_3, T.ag_4, T.ag_57, T.ag_78, T.eb_22, T.es_39, T.es_57, T.ez_22, T.fo_42_0, T.fo_42_1, T.fo_59_0, T.fo_59_1, T.fo_59_10, T.fo_59_11, T.fo_59_2, T.fo_59_3, T.fo_59_4, T.fo_59_5, T.fo_59_6, T.fo_59_7, T.fo_59_8, T.fo_59_9, T.fo_78_0, T.fo_78_1, T.fo_78_2, T.fo_78_3, T.fo_78_4, T.gf_40, T.gf_41, T.gf_42, T.ib_3, T.ii_22, T.ii_39, T.ii_57, T.ip_3, T.pl_78, T.s8_22, T.s8_39, T.s8_57, T.sl_22, T.sl_39, T.sl_57, T.st_22, T.st_39, T.st_57, T.un_22, T.un_39, T.un_57, T.zo_78, z0, z21, gps, gms, refC, w5]
                refine CodeH.of_vc [] hm hok ?_
                simp (config := { dsimp := false, maxSteps := 10000000 }) (disch := omega) only [go_sem, reduceIte, Nat.reduceEqDiff, reduceCtorEq, Nat.reduceAdd, Nat.reduceMul, Int.reduceToNat, Int.reduceLE, Int.reduceLT, Int.reduceEq, Int.reduceNe, Nat.reduceLeDiff, Int.reducePow, Nat.reducePow, Nat.reduceLT, Nat.reduceSub, Nat.reduceMod, Nat.reduceDiv, slot_neg, slot_pos, T.ag_3, T.ag_4, T.ag_57, T.ag_78, T.eb_22, T.es_39, T.es_57, T.ez_22, T.fo_42_0, T.fo_42_1, T.fo_59_0, T.fo_59_1, T.fo_59_10, T.fo_59_11, T.fo_59_2, T.fo_59_3, T.fo_59_4, T.fo_59_5, T.fo_59_6, T.fo_59_7, T.fo_59_8, T.fo_59_9, T.fo_78_0, T.fo_78_1, T.fo_78_2, T.fo_78_3, T.fo_78_4, T.gf_40, T.gf_41, T.gf_42, T.ib_3, T.ii_22, T.ii_39, T.ii_57, T.ip_3, T.pl_78, T.s8_22, T.s8_39, T.s8_57, T.sl_22, T.sl_39, T.sl_57, T.st_22, T.st_39, T.st_57, T.un_22, T.un_39, T.un_57, T.zo_78, z0, z1, z3, z13, z20, w3, q20]
                obtain ⟨n1, n2, n3⟩ := fin { sp with window := sp.window + x.size }
                exact ⟨⟨i + 1, hil, n1, by rw [e3, e7]; exact n2, n3, rfl⟩, by omega⟩
              · have kd' : (sp.window < sp.mark) = False := eq_false kd
                have e7 : growS sp x.pk = { sp with window := sp.window + 1200 * x.size / sp.window } := by unfold growS; rw [if_neg (show ¬ (x.pk.asks = false ∨ x.pk.at_ ≤ sp.since ∨ 1073741824 < sp.window) from hc), if_neg kd]; rfl
                have w0 : (sp.window ≠ 0) = True := eq_true (by omega)
                have w0' : (sp.window = 0) = False := eq_false (by omega)
                have hd1 : 0 ≤ 1200 * x.size / sp.window := Int.ediv_nonneg (by omega) (by omega)
                have hd2 : 1200 * x.size / sp.window ≤ 1200 * x.size := Int.ediv_le_self _ (by omega)
                have w1 : IntKind.i64.wrap (1200 * x.size) = 1200 * x.size := i64wrap (by omega) (by omega)
                have w2 : IntKind.i64.wrap ((1200 * x.size).tdiv sp.window) = 1200 * x.size / sp.window := by rw [tdiv_pos (by omega)]; exact i64wrap (by omega) (by omega)
                have w5 : IntKind.i64.wrap (sp.window + 1200 * x.size / sp.window) = sp.window + 1200 * x.size / sp.window := i64wrap (by omega) (by omega)
                simp (config := { dsimp := false, maxSteps := 10000000 }) (disch := omega) only [go_sem, reduceIte, Nat.reduceEqDiff, reduceCtorEq, Nat.reduceAdd, Nat.reduceMul, Int.reduceToNat, Int.reduceLE, Int.reduceLT, Int.reduceEq, Int.reduceNe, Nat.reduceLeDiff, Int.reducePow, Nat.reducePow, Nat.reduceLT, Nat.reduceSub, Nat.reduceMod, Nat.reduceDiv, slot_neg, slot_pos, T.ag_3, T.ag_4, T.ag_57, T.ag_78, T.eb_22, T.es_39, T.es_57, T.ez_22, T.fo_42_0, T.fo_42_1, T.fo_59_0, T.fo_59_1, T.fo_59_10, T.fo_59_11, T.fo_59_2, T.fo_59_3, T.fo_59_4, T.fo_59_5, T.fo_59_6, T.fo_59_7, T.fo_59_8, T.fo_59_9, T.fo_78_0, T.fo_78_1, T.fo_78_2, T.fo_78_3, T.fo_78_4, T.gf_40, T.gf_41, T.gf_42, T.ib_3, T.ii_22, T.ii_39, T.ii_57, T.ip_3, T.pl_78, T.s8_22, T.s8_39, T.s8_57, T.sl_22, T.sl_39, T.sl_57, T.st_22, T.st_39, T.st_57, T.un_22, T.un_39, T.un_57, T.zo_78, z0, z21, gps, gms, refC, kb', kc', kd']
                refine draw_plan0 (.takeS 0 (.takeS 1 (.takeS 2 (.takeS 3 (.takeS 4 (.takeS 5 (.takeS 6 (.takeS 7 (.takeS 8 (.takeS 9 (.takeS 10 (.takeS 11 (.takeS 12 (.takeS 13 (.takeS 14 (.takeS 15 (.alt 16 .done .stop))))))))))))))))) hm (by kernel_rfl) (by kernel_rfl) ?_
                simp (config := { dsimp := false, maxSteps := 10000000 }) (disch := omega) only [go_sem, reduceIte, Nat.reduceEqDiff, reduceCtorEq, Nat.reduceAdd, Nat.reduceMul, Int.reduceToNat, Int.reduceLE, Int.reduceLT, Int.reduceEq, Int.reduceNe, Nat.reduceLeDiff, Int.reducePow, Nat.reducePow, Nat.reduceLT, Nat.reduceSub, Nat.reduceMod, Nat.reduceDiv, slot_neg, slot_pos, T.ag_3, T.ag_4, T.ag_57, T.ag_78, T.eb_22, T.es_39, T.es_57, T.ez_22, T.fo_42_0, T.fo_42_1, T.fo_59_0, T.fo_59_1, T.fo_59_10, T.fo_59_11, T.fo_59_2, T.fo_59_3, T.fo_59_4, T.fo_59_5, T.fo_59_6, T.fo_59_7, T.fo_59_8, T.fo_59_9, T.fo_78_0, T.fo_78_1, T.fo_78_2, T.fo_78_3, T.fo_78_4, T.gf_40, T.gf_41, T.gf_42, T.ib_3, T.ii_22, T.ii_39, T.ii_57, T.ip_3, T.pl_78, T.s8_22, T.s8_39, T.s8_57, T.sl_22, T.sl_39, T.sl_57, T.st_22, T.st_39, T.st_57, T.un_22, T.un_39, T.un_57, T.zo_78, z0, z21, gps, gms, refC, w0, w0', w1, w2, w5]
                refine CodeH.of_vc [] hm hok ?_
                simp (config := { dsimp := false, maxSteps := 10000000 }) (disch := omega) only [go_sem, reduceIte, Nat.reduceEqDiff, reduceCtorEq, Nat.reduceAdd, Nat.reduceMul, Int.reduceToNat, Int.reduceLE, Int.reduceLT, Int.reduceEq, Int.reduceNe, Nat.reduceLeDiff, Int.reducePow, Nat.reducePow, Nat.reduceLT, Nat.reduceSub, Nat.reduceMod, Nat.reduceDiv, slot_neg, slot_pos, T.ag_3, T.ag_4, T.ag_57, T.ag_78, T.eb_22, T.es_39, T.es_57, T.ez_22, T.fo_42_0, T.fo_42_1, T.fo_59_0, T.fo_59_1, T.fo_59_10, T.fo_59_11, T.fo_59_2, T.fo_59_3, T.fo_59_4, T.fo_59_5, T.fo_59_6, T.fo_59_7, T.fo_59_8, T.fo_59_9, T.fo_78_0, T.fo_78_1, T.fo_78_2, T.fo_78_3, T.fo_78_4, T.gf_40, T.gf_41, T.gf_42, T.ib_3, T.ii_22, T.ii_39, T.ii_57, T.ip_3, T.pl_78, T.s8_22, T.s8_39, T.s8_57, T.sl_22, T.sl_39, T.sl_57, T.st_22, T.st_39, T.st_57, T.un_22, T.un_39, T.un_57, T.zo_78, z0, z1, z3, z13, z20, w3, q20]
                obtain ⟨n1, n2, n3⟩ := fin { sp with window := sp.window + 1200 * x.size / sp.window }
                exact ⟨⟨i + 1, hil, n1, by rw [e3, e7]; exact n2, n3, rfl⟩, by omega⟩
        · have hlt' : ((i : Int) < (L.length : Int)) = False := eq_false (by omega)
          obtain rfl : i = L.length := by omega
          obtain ⟨A, st, o, h1, gm⟩ := hRi.view.form
          rw [mid_len] at gm
          rw [List.take_length, hC] at hRi gm
          refine CodeH.seq' (CodeH.of_vc [] hm (okl hok) ?_)
          replace hok := okr hok
          simp (config := { dsimp := false, maxSteps := 10000000 }) (disch := omega) only [go_sem, reduceIte, Nat.reduceEqDiff, reduceCtorEq, Nat.reduceAdd, Nat.reduceMul, Int.reduceToNat, Int.reduceLE, Int.reduceLT, Int.reduceEq, Int.reduceNe, Nat.reduceLeDiff, Int.reducePow, Nat.reducePow, Nat.reduceLT, Nat.reduceSub, Nat.reduceMod, Nat.reduceDiv, slot_neg, slot_pos, T.ag_3, T.ag_4, T.ag_57, T.ag_78, T.eb_22, T.es_39, T.es_57, T.ez_22, T.fo_42_0, T.fo_42_1, T.fo_59_0, T.fo_59_1, T.fo_59_10, T.fo_59_11, T.fo_59_2, T.fo_59_3, T.fo_59_4, T.fo_59_5, T.fo_59_6, T.fo_59_7, T.fo_59_8, T.fo_59_9, T.fo_78_0, T.fo_78_1, T.fo_78_2, T.fo_78_3, T.fo_78_4, T.gf_40, T.gf_41, T.gf_42, T.ib_3, T.ii_22, T.ii_39, T.ii_57, T.ip_3, T.pl_78, T.s8_22, T.s8_39, T.s8_57, T.sl_22, T.sl_39, T.sl_57, T.st_22, T.st_39, T.st_57, T.un_22, T.un_39, T.un_57, T.zo_78, q0, q1, q3, q13, q20, gm, refC, hlt']
          exact ⟨hU, hRi, hO1⟩
    rintro r H ⟨hU, hR5, hO5, q0, q3, q13⟩
    rw [mid_all] at hR5
    obtain ⟨hm5, _, w5, gm5, hOL5⟩ := hR5
    have ok5 : Ok (ack3 sA C delay at_) := by
      have h9 := okp L.length
      rw [List.take_length, hC] at h9
      rw [e5]
      exact ⟨h9.len, h9.pk, h9.top, h9.best, h9.now, h9.smooth, h9.vary, h9.least, h9.last, h9.window, h9.mark, h9.since, h9.flight, by simp⟩
    obtain ⟨k1, k2, k3⟩ := ack3_keep sA C delay at_
    have hI5 := hIA _ ok5 k1 k2 k3
    have hR6 : RefR (H.put m (.live (.cells (refC w5 { C.foldl growS s4 with tries := 0 }) .own))) m D (L.map (offX f)) (ack3 sA C delay at_) := by
      have := RefR.put (s' := { C.foldl growS s4 with tries := 0 }) hm5 hmD hOL5
      rw [← e5] at this ⊢
      exact this
    have hO6 : OwnRow intE (H.put m (.live (.cells (refC w5 { C.foldl growS s4 with tries := 0 }) .own))) v13 D1 (C.map (·.num)) := hO5.upd (F := [m]) ((Upd.refl _ _).put (.inl (by simp))) (fun d hd => by simp; exact hD1m d hd)
    have hU6 : Upd h (H.put m (.live (.cells (refC w5 { C.foldl growS s4 with tries := 0 }) .own))) (m :: D) := hU.put (.inl (by simp))
    (refine CodeH.seq' (CodeH.of_vc [] hm (by kernel_rfl) ?_); simp (config := { dsimp := false, maxSteps := 10000000 }) (disch := omega) only [go_sem, reduceIte, Nat.reduceEqDiff, reduceCtorEq, Nat.reduceAdd, Nat.reduceMul, Int.reduceToNat, Int.reduceLE, Int.reduceLT, Int.reduceEq, Int.reduceNe, Nat.reduceLeDiff, Int.reducePow, Nat.reducePow, Nat.reduceLT, Nat.reduceSub, Nat.reduceMod, Nat.reduceDiv, slot_neg, slot_pos, T.ag_3, T.ag_4, T.ag_57, T.ag_78, T.eb_22, T.es_39, T.es_57, T.ez_22, T.fo_42_0, T.fo_42_1, T.fo_59_0, T.fo_59_1, T.fo_59_10, T.fo_59_11, T.fo_59_2, T.fo_59_3, T.fo_59_4, T.fo_59_5, T.fo_59_6, T.fo_59_7, T.fo_59_8, T.fo_59_9, T.fo_78_0, T.fo_78_1, T.fo_78_2, T.fo_78_3, T.fo_78_4, T.gf_40, T.gf_41, T.gf_42, T.ib_3, T.ii_22, T.ii_39, T.ii_57, T.ip_3, T.pl_78, T.s8_22, T.s8_39, T.s8_57, T.sl_22, T.sl_39, T.sl_57, T.st_22, T.st_39, T.st_57, T.un_22, T.un_39, T.un_57, T.zo_78, init_a, q0, gm5, refC])
    (refine CodeH.seq' (CodeH.of_vc [] hm (by kernel_rfl) ?_); simp (config := { dsimp := false, maxSteps := 10000000 }) (disch := omega) only [go_sem, reduceIte, Nat.reduceEqDiff, reduceCtorEq, Nat.reduceAdd, Nat.reduceMul, Int.reduceToNat, Int.reduceLE, Int.reduceLT, Int.reduceEq, Int.reduceNe, Nat.reduceLeDiff, Int.reducePow, Nat.reducePow, Nat.reduceLT, Nat.reduceSub, Nat.reduceMod, Nat.reduceDiv, slot_neg, slot_pos, T.ag_3, T.ag_4, T.ag_57, T.ag_78, T.eb_22, T.es_39, T.es_57, T.ez_22, T.fo_42_0, T.fo_42_1, T.fo_59_0, T.fo_59_1, T.fo_59_10, T.fo_59_11, T.fo_59_2, T.fo_59_3, T.fo_59_4, T.fo_59_5, T.fo_59_6, T.fo_59_7, T.fo_59_8, T.fo_59_9, T.fo_78_0, T.fo_78_1, T.fo_78_2, T.fo_78_3, T.fo_78_4, T.gf_40, T.gf_41, T.gf_42, T.ib_3, T.ii_22, T.ii_39, T.ii_57, T.ip_3, T.pl_78, T.s8_22, T.s8_39, T.s8_57, T.sl_22, T.sl_39, T.sl_57, T.st_22, T.st_39, T.st_57, T.un_22, T.un_39, T.un_57, T.zo_78, init_a, q0, q3, q13])
    refine (rgive_ph _ m D (L.map (offX f)) (ack3 sA C delay at_) at_ hR6 ok5 hI5.waits (by rw [List.length_map]; exact hl) ⟨by omega, by omega⟩).mono fun u H4 ⟨D2, f1, f2, f3, f4⟩ => ?_
    simp (config := { dsimp := false, maxSteps := 10000000 }) (disch := omega) only [go_sem, reduceIte, Nat.reduceEqDiff, reduceCtorEq, Nat.reduceAdd, Nat.reduceMul, Int.reduceToNat, Int.reduceLE, Int.reduceLT, Int.reduceEq, Int.reduceNe, Nat.reduceLeDiff, Int.reducePow, Nat.reducePow, Nat.reduceLT, Nat.reduceSub, Nat.reduceMod, Nat.reduceDiv, slot_neg, slot_pos, T.ag_3, T.ag_4, T.ag_57, T.ag_78, T.eb_22, T.es_39, T.es_57, T.ez_22, T.fo_42_0, T.fo_42_1, T.fo_59_0, T.fo_59_1, T.fo_59_10, T.fo_59_11, T.fo_59_2, T.fo_59_3, T.fo_59_4, T.fo_59_5, T.fo_59_6, T.fo_59_7, T.fo_59_8, T.fo_59_9, T.fo_78_0, T.fo_78_1, T.fo_78_2, T.fo_78_3, T.fo_78_4, T.gf_40, T.gf_41, T.gf_42, T.ib_3, T.ii_22, T.ii_39, T.ii_57, T.ip_3, T.pl_78, T.s8_22, T.s8_39, T.s8_57, T.sl_22, T.sl_39, T.sl_57, T.st_22, T.st_39, T.st_57, T.un_22, T.un_39, T.un_57, T.zo_78]
    (refine CodeH.of_vc [] hm (by kernel_rfl) ?_; simp (config := { dsimp := false, maxSteps := 10000000 }) (disch := omega) only [go_sem, reduceIte, Nat.reduceEqDiff, reduceCtorEq, Nat.reduceAdd, Nat.reduceMul, Int.reduceToNat, Int.reduceLE, Int.reduceLT, Int.reduceEq, Int.reduceNe, Nat.reduceLeDiff, Int.reducePow, Nat.reducePow, Nat.reduceLT, Nat.reduceSub, Nat.reduceMod, Nat.reduceDiv, slot_neg, slot_pos, T.ag_3, T.ag_4, T.ag_57, T.ag_78, T.eb_22, T.es_39, T.es_57, T.ez_22, T.fo_42_0, T.fo_42_1, T.fo_59_0, T.fo_59_1, T.fo_59_10, T.fo_59_11, T.fo_59_2, T.fo_59_3, T.fo_59_4, T.fo_59_5, T.fo_59_6, T.fo_59_7, T.fo_59_8, T.fo_59_9, T.fo_78_0, T.fo_78_1, T.fo_78_2, T.fo_78_3, T.fo_78_4, T.gf_40, T.gf_41, T.gf_42, T.ib_3, T.ii_22, T.ii_39, T.ii_57, T.ip_3, T.pl_78, T.s8_22, T.s8_39, T.s8_57, T.sl_22, T.sl_39, T.sl_57, T.st_22, T.st_39, T.st_57, T.un_22, T.un_39, T.un_57, T.zo_78, init_a])
    have hg5 := hI5.give
    rw [k3, nowA] at hg5
    exact ⟨v13, u, _, rfl, (hO6.upd f4 fun d hd => by
      have := hD1 d hd
      have h2 : d ∉ D := fun h3 => by have := hlD d h3; omega
      simp; exact ⟨hD1m d hd, h2⟩).num, f1.num, f3, hg5, by rw [List.length_map, List.length_map], hU6.trans f4 fun d hd => .inl hd⟩
end Ph
