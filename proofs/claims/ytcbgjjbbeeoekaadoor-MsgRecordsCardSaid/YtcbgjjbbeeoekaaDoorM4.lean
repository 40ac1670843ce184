import Derived.Test.YtcbgjjbbeeoekaaDoorM3
set_option maxRecDepth 100000
set_option maxHeartbeats 4000000
set_option linter.unusedSimpArgs false
set_option linter.unusedVariables false
namespace Ph
open Go Go.Proofs
attribute [local irreducible] Value.cells
attribute [local go_sem ↓] y_move y_assign y_pick y_nil y_bin y_un y_fa y_field y_ext y_ia y_ix y_slice y_build y_mf y_rg y_nx y_en y_mm y_lk y_mu y_del y_load y_len y_cap y_min y_max y_conv y_bs y_mk y_alloc y_box y_store y_clear y_app y_callf y_callt s_move s_assign s_pick s_nil s_bin s_un s_fa s_field s_ext s_ia s_ix s_slice s_conv s_build s_bs s_mf s_alloc s_box s_rg s_nx s_en s_mm s_lk s_mu s_del s_load s_store s_len s_clear s_cap s_min s_max s_app s_call q_call q_move q_assign q_pick q_nil q_bin q_un q_fa q_field q_ext q_ia q_ix q_slice q_conv q_build q_mf q_lk q_load q_len q_cap q_min q_max l_nil l_move l_assign l_pick l_nilc l_bin l_un l_fa l_field l_ext l_ia l_ix l_slice l_conv l_build l_mf l_lk l_load l_len l_cap l_min l_max l_call put_eq putN_eq o_nil o_plain o_gate v_nil v_plain v_gate vc_skip vc_region vc_seq vc_cond vc_block vc_loop vc_rf vc_exit vc_ret blk_normal blk_ret blk_exit on_normal on_ret on_exit vc_drawn draw_q s_mk l_bs l_mk l_rg l_nx l_en l_mm l_mu l_del l_alloc l_box l_store l_app l_clear pl_done pl_takeS pl_take pl_alt pl_stop one_plain one_gate
attribute [local go_sem] clear_nil clear_sl onAgg_a onTuple_t onFn_f onFn_y onFunc_f c_int c_nil c_sl c_str sl_sl sl_nil sl_str ix_str ix_agg n_nil n_sl n_str app_eq app_eqZ k_nil k_sl cap_n len_sl len_str len_mn len_m onMap_m onIter_i rg_n rg_m nx_p en_p lk_n lk_m up_m setM_n setM_s del_n del_m kt_s kt_i upd_some upd_none ev_tmp ev_const ev_func rd_some gdst_eq otmp_t otmp_c get_put get_alloc next_put next_alloc get_app next_app init_a resV1 resV2 onPtr_ptr onBool_b onInt_i onSlice_s onSome_s onCells_c lett_eq gate_tt gate_tf gate_ff gate_ft gate_dt gate_df also_eq bin un minmax io_none io_some bo_none bo_some partOf List.getElem?_cons_zero List.getElem?_cons_succ List.getElem?_toArray Option.map_some Option.map_none Option.bind_some ne_eq not_true_eq_false not_false_eq_true false_implies true_implies and_true true_and and_self Bool.false_eq_true Nat.zero_add Nat.add_zero List.size_toArray List.length_cons List.length_nil List.map_toArray List.map_cons List.map_nil Array.getD_eq_getD_getElem? Option.getD_some Bool.not_true Bool.not_false Bool.not_eq_true Option.isNone_some Option.isNone_none List.append_toArray List.append_nil List.nil_append List.cons_append decide_true decide_false in_nil in_cons Bool.and_false Bool.and_true Bool.or_false Bool.true_or Bool.false_or get_mask next_mask get_unmask next_unmask ac_move ac_assign ac_pick ac_nil ac_bin ac_un ac_fa ac_field ac_ext ac_ia ac_ix ac_slice ac_build ac_mf ac_call ac_len ac_lk ac_cap ac_min ac_max accM_m accM_n accM_s accM_t ac_load ac_conv accP_p accS_s accS_n accS_i accS_t fixed_ro fixed_lock fixed_own get_ro next_ro lock_live' lock_cells List.mem_cons List.not_mem_nil or_false false_or or_true true_or and_false false_and IntKind.bits Int.natCast_zero Int.natCast_one size_str data_str list_str mk_str ext_str app_str bytes_str w_byte w_byteu Int.toNat_natCast Int.toNat_zero Int.toNat_one Nat.sub_zero ge_iff_le gt_iff_lt Nat.le_refl Int.le_refl List.drop_zero Int.ofNat_eq_natCast Int.natCast_nonneg Int.sub_zero oc_int oc_bool oc_str oc_ptr oc_sl oc_map oc_func List.set_cons_zero List.set_cons_succ Nat.mul_one List.all_cons List.all_nil Bool.and_self res_nil res_tmp res_cell tup_one tup_two tup_nil fill_nil repl_zero cells_agg List.append_eq List.toList_toArray Nat.zero_mul Nat.one_mul repl_one repl_two onSome_build fill_cons onSome_lit splice_eq cells_int cells_bool cells_str cells_ptr cells_sl cells_map cells_func loadK_n loadK_s load_k storeK_n storeK_s store_k all_arr List.take_zero List.take_succ_cons List.drop_succ_cons List.take_nil List.drop_nil lk_own lk_ro lk_lock lk_lk fixed_lk gate_nt gate_nf gate3_b gate3_u undef Bool.true_and Bool.false_and nx_l nx_r nx_lt put_put resV0
attribute [local go_sem] str_inj size_str
/-! The document's bytes of a name; is it a name?; how much of bytes is a whole name. -/
theorem getS_len (b : List UInt8) : ∀ (s : List UInt8) (e bf a : Nat), s.length ≤ 254 → (getS b s e bf a).1.length ≤ 254 := by
  intro s e bf a
  induction s, e, bf, a using getS.induct (b := b) with
  | case1 s e bf a h1 h2 => intro hs; rw [getS, if_pos h1, if_pos h2]; dsimp only; exact (by by_cases h0 : s = [] <;> simp [h0] <;> omega)
  | case2 s e bf a h1 h2 h3 h4 => intro h; rw [getS, if_pos h1, if_neg h2, if_pos h3, if_pos h4]; simp
  | case3 s e bf a h1 h2 h3 h4 h5 => intro h; rw [getS, if_pos h1, if_neg h2, if_pos h3, if_neg h4, if_pos h5]; simp
  | case4 s e bf a h1 h2 h3 h4 h5 ih => intro h; rw [getS, if_pos h1, if_neg h2, if_pos h3, if_neg h4, if_neg h5]; exact ih h
  | case5 s e bf a h1 h2 h3 h4 => intro h; rw [getS, if_pos h1, if_neg h2, if_neg h3, if_pos h4]; simp
  | case6 s e bf a h1 h2 h3 h4 h5 => intro h; rw [getS, if_pos h1, if_neg h2, if_neg h3, if_neg h4, if_pos h5]; simp
  | case7 s e bf a h1 h2 h3 h4 h5 h6 => intro h; rw [getS, if_pos h1, if_neg h2, if_neg h3, if_neg h4, if_neg h5, if_pos h6]; simp
  | case8 s e bf a h1 h2 h3 h4 h5 h6 ih => intro h; rw [getS, if_pos h1, if_neg h2, if_neg h3, if_neg h4, if_neg h5, if_neg h6]; exact ih (by omega)
  | case9 s e bf a h1 => intro h; rw [getS, if_neg h1]; simp
theorem Right_ph (h : Heap) (l : List UInt8) (hl : l.length < 8796093022208) : @CallsH Tryd.prog 17 #[.string (str l)] h ⟨fun u H => u = .bool (nameOf l).isSome ∧ Upd h H []⟩ := by
  (refine calls_of_vc [] hm Tryd.func17 rfl (ts := [2]) rfl (by kernel_rfl) (by simp) ?_; simp (config := { dsimp := false, maxSteps := 10000000 }) (disch := omega) only [go_sem, reduceIte, Nat.reduceEqDiff, reduceCtorEq, Nat.reduceAdd, Nat.reduceMul, Int.reduceToNat, Int.reduceLE, Int.reduceLT, Int.reduceEq, Int.reduceNe, Nat.reduceLeDiff, Int.reducePow, Nat.reducePow, Nat.reduceLT, Nat.reduceSub, Nat.reduceMod, Nat.reduceDiv, slot_neg, slot_pos, T.gf_28, T.ib_25, T.ip_25, init_a])
  refine (DocLabels_ph h l hl).mono fun u H ⟨hU, hu⟩ => ?_
  cases hn : nameOf l with
  | none => rw [hn] at hu; dsimp only at hu; subst hu; simp (config := { dsimp := false, maxSteps := 10000000 }) (disch := omega) only [go_sem, reduceIte, Nat.reduceEqDiff, reduceCtorEq, Nat.reduceAdd, Nat.reduceMul, Int.reduceToNat, Int.reduceLE, Int.reduceLT, Int.reduceEq, Int.reduceNe, Nat.reduceLeDiff, Int.reducePow, Nat.reducePow, Nat.reduceLT, Nat.reduceSub, Nat.reduceMod, Nat.reduceDiv, slot_neg, slot_pos, T.gf_28, T.ib_25, T.ip_25]; exact ⟨rfl, hU⟩
  | some ps =>
    rw [hn] at hu
    obtain ⟨v, D, rfl, hO, hD⟩ := hu
    have ho := hO.row.one
    simp (config := { dsimp := false, maxSteps := 10000000 }) (disch := omega) only [go_sem, reduceIte, Nat.reduceEqDiff, reduceCtorEq, Nat.reduceAdd, Nat.reduceMul, Int.reduceToNat, Int.reduceLE, Int.reduceLT, Int.reduceEq, Int.reduceNe, Nat.reduceLeDiff, Int.reducePow, Nat.reducePow, Nat.reduceLT, Nat.reduceSub, Nat.reduceMod, Nat.reduceDiv, slot_neg, slot_pos, T.gf_28, T.ib_25, T.ip_25, ho.1, ho.2]; exact ⟨rfl, hU⟩
theorem isName_ph (h : Heap) (l : List UInt8) (hl : l.length < 9223372036854775807) : @CallsH Tryd.prog 12 #[.string (str l)] h ⟨fun u H => u = .bool (nameOf l).isSome ∧ Upd h H []⟩ := by
  (refine calls_of_vc [] hm Tryd.func12 rfl (ts := [2]) rfl (by kernel_rfl) (by simp) ?_; simp (config := { dsimp := false, maxSteps := 10000000 }) (disch := omega) only [go_sem, reduceIte, Nat.reduceEqDiff, reduceCtorEq, Nat.reduceAdd, Nat.reduceMul, Int.reduceToNat, Int.reduceLE, Int.reduceLT, Int.reduceEq, Int.reduceNe, Nat.reduceLeDiff, Int.reducePow, Nat.reducePow, Nat.reduceLT, Nat.reduceSub, Nat.reduceMod, Nat.reduceDiv, slot_neg, slot_pos, T.gf_24, T.ib_25, T.ip_25, init_a])
  refine (Labels_ph h l hl).mono fun u H ⟨hU, hu⟩ => ?_
  cases hn : nameOf l with
  | none => rw [hn] at hu; dsimp only at hu; subst hu; simp (config := { dsimp := false, maxSteps := 10000000 }) (disch := omega) only [go_sem, reduceIte, Nat.reduceEqDiff, reduceCtorEq, Nat.reduceAdd, Nat.reduceMul, Int.reduceToNat, Int.reduceLE, Int.reduceLT, Int.reduceEq, Int.reduceNe, Nat.reduceLeDiff, Int.reducePow, Nat.reducePow, Nat.reduceLT, Nat.reduceSub, Nat.reduceMod, Nat.reduceDiv, slot_neg, slot_pos, T.gf_24, T.ib_25, T.ip_25]; exact ⟨rfl, hU⟩
  | some ps =>
    rw [hn] at hu
    obtain ⟨v, D, rfl, hO, hD⟩ := hu
    have ho := hO.row.one
    simp (config := { dsimp := false, maxSteps := 10000000 }) (disch := omega) only [go_sem, reduceIte, Nat.reduceEqDiff, reduceCtorEq, Nat.reduceAdd, Nat.reduceMul, Int.reduceToNat, Int.reduceLE, Int.reduceLT, Int.reduceEq, Int.reduceNe, Nat.reduceLeDiff, Int.reducePow, Nat.reducePow, Nat.reduceLT, Nat.reduceSub, Nat.reduceMod, Nat.reduceDiv, slot_neg, slot_pos, T.gf_24, T.ib_25, T.ip_25, ho.1, ho.2]; exact ⟨rfl, hU⟩
theorem within_ph (h : Heap) (n a b : Int) : @CallsH Tryd.prog 13 #[.int .i64 n, .int .i64 a, .int .i64 b] h ⟨fun u _ => u = .bool (decide (a ≤ n ∧ n ≤ b))⟩ := by
  by_cases h1 : a ≤ n <;> by_cases h2 : n ≤ b <;> (refine calls_of_vc [] hm Tryd.func13 rfl (ts := [6]) rfl (by kernel_rfl) (by simp) ?_; simp (config := { dsimp := false, maxSteps := 10000000 }) (disch := omega) only [go_sem, reduceIte, Nat.reduceEqDiff, reduceCtorEq, Nat.reduceAdd, Nat.reduceMul, Int.reduceToNat, Int.reduceLE, Int.reduceLT, Int.reduceEq, Int.reduceNe, Nat.reduceLeDiff, Int.reducePow, Nat.reducePow, Nat.reduceLT, Nat.reduceSub, Nat.reduceMod, Nat.reduceDiv, slot_neg, slot_pos, T.ib_3, T.ip_3, init_a, h1, h2])
theorem DocWire_ph (h : Heap) (l : List UInt8) (hl : l.length < 8796093022208) :
    @CallsH Tryd.prog 29 #[.string (str l)] h ⟨fun u H => Upd h H [] ∧ match wireS l with
      | none => u = .tuple #[.string (str []), .int .i64 14]
      | some bs => u = .tuple #[.string (str bs), .int .i64 0]⟩ := by
  unfold wireS
  (refine calls_of_vc [] hm Tryd.func29 rfl (ts := [2, 3]) rfl (by kernel_rfl) (by simp) ?_; simp (config := { dsimp := false, maxSteps := 10000000 }) (disch := omega) only [go_sem, reduceIte, Nat.reduceEqDiff, reduceCtorEq, Nat.reduceAdd, Nat.reduceMul, Int.reduceToNat, Int.reduceLE, Int.reduceLT, Int.reduceEq, Int.reduceNe, Nat.reduceLeDiff, Int.reducePow, Nat.reducePow, Nat.reduceLT, Nat.reduceSub, Nat.reduceMod, Nat.reduceDiv, slot_neg, slot_pos, T.ag_9, T.eb_32, T.es_59, T.ez_32, T.gf_28, T.ib_25, T.ib_3, T.ib_9, T.ii_3, T.ii_32, T.ii_5, T.ii_59, T.ii_9, T.ip_25, T.ip_3, T.ip_9, T.s8_3, T.s8_32, T.s8_5, T.s8_59, T.s8_9, T.sl_3, T.sl_32, T.sl_5, T.sl_59, T.sl_9, T.st_3, T.st_32, T.st_5, T.st_59, T.st_9, T.un_3, T.un_32, T.un_5, T.un_59, T.un_9, init_a, mk_str])
  refine (DocLabels_ph h l hl).mono fun u H ⟨hU, hu⟩ => ?_
  cases hn : nameOf l with
  | none =>
    rw [hn] at hu
    dsimp only at hu
    subst hu
    simp (config := { dsimp := false, maxSteps := 10000000 }) (disch := omega) only [go_sem, reduceIte, Nat.reduceEqDiff, reduceCtorEq, Nat.reduceAdd, Nat.reduceMul, Int.reduceToNat, Int.reduceLE, Int.reduceLT, Int.reduceEq, Int.reduceNe, Nat.reduceLeDiff, Int.reducePow, Nat.reducePow, Nat.reduceLT, Nat.reduceSub, Nat.reduceMod, Nat.reduceDiv, slot_neg, slot_pos, T.ag_9, T.eb_32, T.es_59, T.ez_32, T.gf_28, T.ib_25, T.ib_3, T.ib_9, T.ii_3, T.ii_32, T.ii_5, T.ii_59, T.ii_9, T.ip_25, T.ip_3, T.ip_9, T.s8_3, T.s8_32, T.s8_5, T.s8_59, T.s8_9, T.sl_3, T.sl_32, T.sl_5, T.sl_59, T.sl_9, T.st_3, T.st_32, T.st_5, T.st_59, T.st_9, T.un_3, T.un_32, T.un_5, T.un_59, T.un_9, mk_str]
    exact hU
  | some ps =>
    rw [hn] at hu
    obtain ⟨v, D, rfl, hO, hD⟩ := hu
    have hlen := name_len hn
    have hok := (name_ok hn).2
    have hcnt := count_le ps
    have ho := hO.row.one
    simp (config := { dsimp := false, maxSteps := 10000000 }) (disch := omega) only [go_sem, reduceIte, Nat.reduceEqDiff, reduceCtorEq, Nat.reduceAdd, Nat.reduceMul, Int.reduceToNat, Int.reduceLE, Int.reduceLT, Int.reduceEq, Int.reduceNe, Nat.reduceLeDiff, Int.reducePow, Nat.reducePow, Nat.reduceLT, Nat.reduceSub, Nat.reduceMod, Nat.reduceDiv, slot_neg, slot_pos, T.ag_9, T.eb_32, T.es_59, T.ez_32, T.gf_28, T.ib_25, T.ib_3, T.ib_9, T.ii_3, T.ii_32, T.ii_5, T.ii_59, T.ii_9, T.ip_25, T.ip_3, T.ip_9, T.s8_3, T.s8_32, T.s8_5, T.s8_59, T.s8_9, T.sl_3, T.sl_32, T.sl_5, T.sl_59, T.sl_9, T.st_3, T.st_32, T.st_5, T.st_59, T.st_9, T.un_3, T.un_32, T.un_5, T.un_59, T.un_9, mk_str, ho.1, ho.2]
    refine loop_intro [] hm (fun r H2 => ∃ i : Nat, i ≤ ps.length ∧ r 4 = v ∧ r 6 = .string (str (wireP (ps.take i))) ∧ r 7 = .int .i64 i ∧ Upd H H2 []) (fun r _ => match r 7 with | .int _ i => ps.length - i.toNat | _ => 0) ?_ ?_
    · exact ⟨0, by omega, by simp [upd], by simp [upd, wireP], by simp [upd], Upd.refl _ _⟩
    · rintro r H2 ⟨i, hi, q4, q6, q7, hU2⟩
      have hO2 := hO.upd hU2 (by simp)
      by_cases hil : i < ps.length
      · have c1 : ((i : Int) < (ps.length : Int)) = True := eq_true (by omega)
        have wi : IntKind.i64.wrap ((i : Int) + 1) = ((i + 1 : Nat) : Int) := by rw [i64wrap] <;> omega
        have hx : ps[i]? = some ps[i] := List.getElem?_eq_getElem hil
        have hpo := ok_len (hok _ (List.getElem_mem hil))
        have htk : wireP (ps.take (i + 1)) = wireP (ps.take i) ++ [UInt8.ofNat ps[i].length] ++ ps[i] := by unfold wireP; rw [List.take_succ_eq_append_getElem hil]; simp only [List.flatMap_append, List.flatMap_cons, List.flatMap_nil, List.append_nil, List.append_assoc, List.cons_append, List.nil_append]
        have hwl : (wireP (ps.take i)).length ≤ 254 := by rw [wireP_len]; exact Nat.le_trans (sum_take _ _ _) hlen
        rcases hO with ⟨_, h0, _⟩ | ⟨q, off, vs, rfl, hq, hv', hg, hR⟩
        · rw [h0] at hil; simp at hil
        have hcell := hR.cell hx (j := 0) Nat.zero_lt_one
        rw [show tE.k = 1 from rfl, Nat.mul_one, Nat.add_zero] at hcell
        generalize ps[i] = p at *
        replace hcell : vs[off + i]? = some (.string (str p)) := hcell
        have hg2 := (hU2.2 q hq (by simp)).trans hg
        have hq2 : q < H2.next := Nat.lt_of_lt_of_le hq hU2.1
        have wp : IntKind.u8.wrap (p.length : Int) = ((UInt8.ofNat p.length).toNat : Int) := by rw [u8wrap (by omega) (by omega)]; simp; omega
        rw [show tE.k = 1 from rfl] at hv'
        rw [hv'] at q4
        generalize wireP (ps.take i) = o at *
        have dA : (o.length ≤ 9223372036854775806) = True := eq_true (by omega)
        have dB : (o.length + 1 + p.length ≤ 9223372036854775807) = True := eq_true (by omega)
        simp (config := { dsimp := false, maxSteps := 10000000 }) (disch := omega) only [go_sem, reduceIte, Nat.reduceEqDiff, reduceCtorEq, Nat.reduceAdd, Nat.reduceMul, Int.reduceToNat, Int.reduceLE, Int.reduceLT, Int.reduceEq, Int.reduceNe, Nat.reduceLeDiff, Int.reducePow, Nat.reducePow, Nat.reduceLT, Nat.reduceSub, Nat.reduceMod, Nat.reduceDiv, slot_neg, slot_pos, T.ag_9, T.eb_32, T.es_59, T.ez_32, T.gf_28, T.ib_25, T.ib_3, T.ib_9, T.ii_3, T.ii_32, T.ii_5, T.ii_59, T.ii_9, T.ip_25, T.ip_3, T.ip_9, T.s8_3, T.s8_32, T.s8_5, T.s8_59, T.s8_9, T.sl_3, T.sl_32, T.sl_5, T.sl_59, T.sl_9, T.st_3, T.st_32, T.st_5, T.st_59, T.st_9, T.un_3, T.un_32, T.un_5, T.un_59, T.un_9, q4, q6, q7, c1]
        refine draw_plan [] (.takeS 1 (.takeS 2 (.takeS 3 (.takeS 4 (.takeS 5 (.takeS 6 (.take 0 (.take 10 (.take 11 (.take 12 (.take 13 (.alt 7 (.takeS 8 (.takeS 9 (.takeS 14 (.takeS 15 .done)))) .stop)))))))))))) hm (by kernel_rfl) (by kernel_rfl) ?_
        simp (config := { dsimp := false, maxSteps := 10000000 }) (disch := omega) only [go_sem, reduceIte, Nat.reduceEqDiff, reduceCtorEq, Nat.reduceAdd, Nat.reduceMul, Int.reduceToNat, Int.reduceLE, Int.reduceLT, Int.reduceEq, Int.reduceNe, Nat.reduceLeDiff, Int.reducePow, Nat.reducePow, Nat.reduceLT, Nat.reduceSub, Nat.reduceMod, Nat.reduceDiv, slot_neg, slot_pos, T.ag_9, T.eb_32, T.es_59, T.ez_32, T.gf_28, T.ib_25, T.ib_3, T.ib_9, T.ii_3, T.ii_32, T.ii_5, T.ii_59, T.ii_9, T.ip_25, T.ip_3, T.ip_9, T.s8_3, T.s8_32, T.s8_5, T.s8_59, T.s8_9, T.sl_3, T.sl_32, T.sl_5, T.sl_59, T.sl_9, T.st_3, T.st_32, T.st_5, T.st_59, T.st_9, T.un_3, T.un_32, T.un_5, T.un_59, T.un_9, q4, q6, q7, c1, hg2, hq2, hcell, wp, one_val, app_str, dA, dB, List.length_append, List.length_singleton, wi]
        refine ⟨⟨i + 1, hil, ?_, ?_, rfl, (hU2.unmask (Nat.le_succ _) fun d hd => by cases hd)⟩, by omega⟩
        · rw [hv']
        · rw [htk]
      · obtain rfl : i = ps.length := by omega
        have c1 : ((ps.length : Int) < (ps.length : Int)) = False := eq_false (by omega)
        rw [List.take_length] at q6
        have hwl : (wireP ps).length ≤ 254 := by rw [wireP_len]; exact hlen
        have dA : ((wireP ps).length ≤ 9223372036854775806) = True := eq_true (by omega)
        simp (config := { dsimp := false, maxSteps := 10000000 }) (disch := omega) only [go_sem, reduceIte, Nat.reduceEqDiff, reduceCtorEq, Nat.reduceAdd, Nat.reduceMul, Int.reduceToNat, Int.reduceLE, Int.reduceLT, Int.reduceEq, Int.reduceNe, Nat.reduceLeDiff, Int.reducePow, Nat.reducePow, Nat.reduceLT, Nat.reduceSub, Nat.reduceMod, Nat.reduceDiv, slot_neg, slot_pos, T.ag_9, T.eb_32, T.es_59, T.ez_32, T.gf_28, T.ib_25, T.ib_3, T.ib_9, T.ii_3, T.ii_32, T.ii_5, T.ii_59, T.ii_9, T.ip_25, T.ip_3, T.ip_9, T.s8_3, T.s8_32, T.s8_5, T.s8_59, T.s8_9, T.sl_3, T.sl_32, T.sl_5, T.sl_59, T.sl_9, T.st_3, T.st_32, T.st_5, T.st_59, T.st_9, T.un_3, T.un_32, T.un_5, T.un_59, T.un_9, q4, q6, q7, c1, len_own hO2, mk_str, app_str, dA]
        exact hU.trans hU2 (by simp)
theorem plainD_ph (h : Heap) (b : List UInt8) (hb : b.length < 4611686018427387904) : @CallsH Tryd.prog 18 #[.string (str b)] h ⟨fun u H => u = .int .i64 (plainN b : Nat) ∧ Upd h H []⟩ := by
  (refine calls_of_vc [] hm Tryd.func18 rfl (ts := [2]) rfl (by kernel_rfl) (by simp) ?_; simp (config := { dsimp := false, maxSteps := 10000000 }) (disch := omega) only [go_sem, reduceIte, Nat.reduceEqDiff, reduceCtorEq, Nat.reduceAdd, Nat.reduceMul, Int.reduceToNat, Int.reduceLE, Int.reduceLT, Int.reduceEq, Int.reduceNe, Nat.reduceLeDiff, Int.reducePow, Nat.reducePow, Nat.reduceLT, Nat.reduceSub, Nat.reduceMod, Nat.reduceDiv, slot_neg, slot_pos, T.es_9, T.gf_15, T.gf_29, T.ib_25, T.ib_3, T.ib_9, T.ii_9, T.ip_25, T.ip_3, T.ip_9, T.s8_9, T.sl_9, T.st_9, T.un_9, init_a])
  refine (DocGet_ph h b 0 hb).mono fun u H ⟨hu, hU⟩ => ?_
  have e0 : getT b 0 = getS b [] 0 0 0 := by unfold getT; rw [if_neg (by omega)]; rfl
  rw [e0] at hu
  subst hu
  have hlen := getS_len b [] 0 0 0 (by simp)
  have hend := getS_end b [] 0 0 0
  unfold plainN
  generalize getS b [] 0 0 0 = g at *
  simp (config := { dsimp := false, maxSteps := 10000000 }) (disch := omega) only [go_sem, reduceIte, Nat.reduceEqDiff, reduceCtorEq, Nat.reduceAdd, Nat.reduceMul, Int.reduceToNat, Int.reduceLE, Int.reduceLT, Int.reduceEq, Int.reduceNe, Nat.reduceLeDiff, Int.reducePow, Nat.reducePow, Nat.reduceLT, Nat.reduceSub, Nat.reduceMod, Nat.reduceDiv, slot_neg, slot_pos, T.es_9, T.gf_15, T.gf_29, T.ib_25, T.ib_3, T.ib_9, T.ii_9, T.ip_25, T.ip_3, T.ip_9, T.s8_9, T.sl_9, T.st_9, T.un_9]
  refine (DocWire_ph H g.1 (by omega)).mono fun u H2 ⟨hU2, hu2⟩ => ?_
  have hUU := hU.trans hU2 (by simp)
  by_cases he : g.2.2 = 0
  · have c1 : (g.2.2 = 0) = True := eq_true he
    have hend2 := hend he (by simp)
    rw [if_neg (by simp [he])]
    cases hw : wireS g.1 with
    | none =>
      rw [hw] at hu2
      dsimp only at hu2
      subst hu2
      simp (config := { dsimp := false, maxSteps := 10000000 }) (disch := omega) only [go_sem, reduceIte, Nat.reduceEqDiff, reduceCtorEq, Nat.reduceAdd, Nat.reduceMul, Int.reduceToNat, Int.reduceLE, Int.reduceLT, Int.reduceEq, Int.reduceNe, Nat.reduceLeDiff, Int.reducePow, Nat.reducePow, Nat.reduceLT, Nat.reduceSub, Nat.reduceMod, Nat.reduceDiv, slot_neg, slot_pos, T.es_9, T.gf_15, T.gf_29, T.ib_25, T.ib_3, T.ib_9, T.ii_9, T.ip_25, T.ip_3, T.ip_9, T.s8_9, T.sl_9, T.st_9, T.un_9, c1]
      exact hUU
    | some w =>
      rw [hw] at hu2
      dsimp only at hu2
      subst hu2
      dsimp only
      by_cases hn : g.2.1 = w.length
      · have c2 : ((g.2.1 : Int) = (w.length : Int)) = True := eq_true (by omega)
        by_cases ht : b.take w.length = w
        · rw [if_pos ⟨hn, ht⟩]
          have c3 : ((g.2.1 : Nat) : Int) ≤ (b.length : Int) := by omega
          simp (config := { dsimp := false, maxSteps := 10000000 }) (disch := omega) only [go_sem, reduceIte, Nat.reduceEqDiff, reduceCtorEq, Nat.reduceAdd, Nat.reduceMul, Int.reduceToNat, Int.reduceLE, Int.reduceLT, Int.reduceEq, Int.reduceNe, Nat.reduceLeDiff, Int.reducePow, Nat.reducePow, Nat.reduceLT, Nat.reduceSub, Nat.reduceMod, Nat.reduceDiv, slot_neg, slot_pos, T.es_9, T.gf_15, T.gf_29, T.ib_25, T.ib_3, T.ib_9, T.ii_9, T.ip_25, T.ip_3, T.ip_9, T.s8_9, T.sl_9, T.st_9, T.un_9, c1, c2, hn, ht]
          exact ⟨by omega, hUU⟩
        · rw [if_neg (fun e => ht e.2)]
          simp (config := { dsimp := false, maxSteps := 10000000 }) (disch := omega) only [go_sem, reduceIte, Nat.reduceEqDiff, reduceCtorEq, Nat.reduceAdd, Nat.reduceMul, Int.reduceToNat, Int.reduceLE, Int.reduceLT, Int.reduceEq, Int.reduceNe, Nat.reduceLeDiff, Int.reducePow, Nat.reducePow, Nat.reduceLT, Nat.reduceSub, Nat.reduceMod, Nat.reduceDiv, slot_neg, slot_pos, T.es_9, T.gf_15, T.gf_29, T.ib_25, T.ib_3, T.ib_9, T.ii_9, T.ip_25, T.ip_3, T.ip_9, T.s8_9, T.sl_9, T.st_9, T.un_9, c1, c2, hn]
          exact ⟨by omega, fun _ => hUU, fun h9 => absurd ht h9⟩
      · have c2 : ((g.2.1 : Int) = (w.length : Int)) = False := eq_false (by omega)
        rw [if_neg (fun e => hn e.1)]
        simp (config := { dsimp := false, maxSteps := 10000000 }) (disch := omega) only [go_sem, reduceIte, Nat.reduceEqDiff, reduceCtorEq, Nat.reduceAdd, Nat.reduceMul, Int.reduceToNat, Int.reduceLE, Int.reduceLT, Int.reduceEq, Int.reduceNe, Nat.reduceLeDiff, Int.reducePow, Nat.reducePow, Nat.reduceLT, Nat.reduceSub, Nat.reduceMod, Nat.reduceDiv, slot_neg, slot_pos, T.es_9, T.gf_15, T.gf_29, T.ib_25, T.ib_3, T.ib_9, T.ii_9, T.ip_25, T.ip_3, T.ip_9, T.s8_9, T.sl_9, T.st_9, T.un_9, c1, c2]
        exact hUU
  · have c1 : (g.2.2 = 0) = False := eq_false he
    rw [if_pos he]
    cases hw : wireS g.1 with
    | none =>
      rw [hw] at hu2
      dsimp only at hu2
      subst hu2
      simp (config := { dsimp := false, maxSteps := 10000000 }) (disch := omega) only [go_sem, reduceIte, Nat.reduceEqDiff, reduceCtorEq, Nat.reduceAdd, Nat.reduceMul, Int.reduceToNat, Int.reduceLE, Int.reduceLT, Int.reduceEq, Int.reduceNe, Nat.reduceLeDiff, Int.reducePow, Nat.reducePow, Nat.reduceLT, Nat.reduceSub, Nat.reduceMod, Nat.reduceDiv, slot_neg, slot_pos, T.es_9, T.gf_15, T.gf_29, T.ib_25, T.ib_3, T.ib_9, T.ii_9, T.ip_25, T.ip_3, T.ip_9, T.s8_9, T.sl_9, T.st_9, T.un_9, c1]
      exact hUU
    | some w =>
      rw [hw] at hu2
      dsimp only at hu2
      subst hu2
      simp (config := { dsimp := false, maxSteps := 10000000 }) (disch := omega) only [go_sem, reduceIte, Nat.reduceEqDiff, reduceCtorEq, Nat.reduceAdd, Nat.reduceMul, Int.reduceToNat, Int.reduceLE, Int.reduceLT, Int.reduceEq, Int.reduceNe, Nat.reduceLeDiff, Int.reducePow, Nat.reducePow, Nat.reduceLT, Nat.reduceSub, Nat.reduceMod, Nat.reduceDiv, slot_neg, slot_pos, T.es_9, T.gf_15, T.gf_29, T.ib_25, T.ib_3, T.ib_9, T.ii_9, T.ip_25, T.ip_3, T.ip_9, T.s8_9, T.sl_9, T.st_9, T.un_9, c1]
      exact hUU
theorem plainN_some {b w : List UInt8} (h0 : (getS b [] 0 0 0).2.2 = 0) (hw : wireS (getS b [] 0 0 0).1 = some w) : plainN b = if (getS b [] 0 0 0).2.1 = w.length ∧ b.take w.length = w then w.length else 0 := by
  unfold plainN; rw [if_neg (by simp [h0]), hw]
theorem plain_ph (h : Heap) (v : Value) (b : List UInt8) (hr : RowIn u8E h v b) (hlt : ∀ A k st, v = .slice (some A) k st → A.block < h.next) (hb : b.length < 4611686018427387904) : @CallsH Tryd.prog 25 #[v] h ⟨fun u H => u = .int .i64 (plainN b : Nat) ∧ Upd h H []⟩ := by
  have ho := hr.one
  (refine calls_of_vc [] hm Tryd.func25 rfl (ts := [2]) rfl (by kernel_rfl) (by simp) ?_; simp (config := { dsimp := false, maxSteps := 10000000 }) (disch := omega) only [go_sem, reduceIte, Nat.reduceEqDiff, reduceCtorEq, Nat.reduceAdd, Nat.reduceMul, Int.reduceToNat, Int.reduceLE, Int.reduceLT, Int.reduceEq, Int.reduceNe, Nat.reduceLeDiff, Int.reducePow, Nat.reducePow, Nat.reduceLT, Nat.reduceSub, Nat.reduceMod, Nat.reduceDiv, slot_neg, slot_pos, T.es_32, T.gf_16, T.gf_39, T.ib_25, T.ib_3, T.ib_9, T.ii_32, T.ii_9, T.ip_25, T.ip_3, T.ip_9, T.s8_32, T.s8_9, T.sl_32, T.sl_9, T.st_32, T.st_9, T.un_32, T.un_9, init_a, ho.1, ho.2])
  refine (Get_ph h v b 0 hr hlt hb).mono fun u H ⟨hu, hU⟩ => ?_
  have e0 : getT b 0 = getS b [] 0 0 0 := by unfold getT; rw [if_neg (by omega)]; rfl
  rw [e0] at hu
  subst hu
  have hlen := getS_len b [] 0 0 0 (by simp)
  have hend := getS_end b [] 0 0 0
  have hnil : b = [] → (getS b [] 0 0 0).2.2 = 3 := fun e => by rw [e, getS]; rfl
  unfold plainN
  generalize getS b [] 0 0 0 = g at *
  by_cases he : g.2.2 = 0
  · have c1 : (g.2.2 = 0) = True := eq_true he
    have hend2 := hend he (by simp)
    rw [if_neg (by simp [he])]
    simp (config := { dsimp := false, maxSteps := 10000000 }) (disch := omega) only [go_sem, reduceIte, Nat.reduceEqDiff, reduceCtorEq, Nat.reduceAdd, Nat.reduceMul, Int.reduceToNat, Int.reduceLE, Int.reduceLT, Int.reduceEq, Int.reduceNe, Nat.reduceLeDiff, Int.reducePow, Nat.reducePow, Nat.reduceLT, Nat.reduceSub, Nat.reduceMod, Nat.reduceDiv, slot_neg, slot_pos, T.es_32, T.gf_16, T.gf_39, T.ib_25, T.ib_3, T.ib_9, T.ii_32, T.ii_9, T.ip_25, T.ip_3, T.ip_9, T.s8_32, T.s8_9, T.sl_32, T.sl_9, T.st_32, T.st_9, T.un_32, T.un_9, c1]
    refine (Wire_ph H g.1 (by omega)).mono fun u H2 ⟨hU2, hu2⟩ => ?_
    have hUU := hU.trans hU2 (by simp)
    cases hw : wireS g.1 with
    | none =>
      rw [hw] at hu2
      dsimp only at hu2
      subst hu2
      simp (config := { dsimp := false, maxSteps := 10000000 }) (disch := omega) only [go_sem, reduceIte, Nat.reduceEqDiff, reduceCtorEq, Nat.reduceAdd, Nat.reduceMul, Int.reduceToNat, Int.reduceLE, Int.reduceLT, Int.reduceEq, Int.reduceNe, Nat.reduceLeDiff, Int.reducePow, Nat.reducePow, Nat.reduceLT, Nat.reduceSub, Nat.reduceMod, Nat.reduceDiv, slot_neg, slot_pos, T.es_32, T.gf_16, T.gf_39, T.ib_25, T.ib_3, T.ib_9, T.ii_32, T.ii_9, T.ip_25, T.ip_3, T.ip_9, T.s8_32, T.s8_9, T.sl_32, T.sl_9, T.st_32, T.st_9, T.un_32, T.un_9]
      exact hUU
    | some w =>
      rw [hw] at hu2
      obtain ⟨x, D, rfl, hO, hD⟩ := hu2
      have hox := hO.row.one
      dsimp only
      rcases hr with ⟨_, h9⟩ | ⟨q, off, vs, o, hv, hg, hR⟩
      · rw [hnil h9] at he; cases he
      have hqn := hlt _ _ _ hv
      have hg2 := (hUU.2 q hqn (by simp)).trans hg
      rw [show u8E.k = 1 from rfl] at hv
      by_cases hn : g.2.1 = w.length
      · have c2 : ((g.2.1 : Int) = (w.length : Int)) = True := eq_true (by omega)
        have hcut : RowIn u8E H2 (.slice (some ⟨q, off, none⟩) w.length 1) (b.take w.length) := .inr ⟨q, off, vs, o, by rw [List.length_take, Nat.min_eq_left (by omega)]; rfl, hg2, hR.take w.length (by omega)⟩
        by_cases ht : b.take w.length = w
        · rw [if_pos ⟨hn, ht⟩]
          simp (config := { dsimp := false, maxSteps := 10000000 }) (disch := omega) only [go_sem, reduceIte, Nat.reduceEqDiff, reduceCtorEq, Nat.reduceAdd, Nat.reduceMul, Int.reduceToNat, Int.reduceLE, Int.reduceLT, Int.reduceEq, Int.reduceNe, Nat.reduceLeDiff, Int.reducePow, Nat.reducePow, Nat.reduceLT, Nat.reduceSub, Nat.reduceMod, Nat.reduceDiv, slot_neg, slot_pos, T.es_32, T.gf_16, T.gf_39, T.ib_25, T.ib_3, T.ib_9, T.ii_32, T.ii_9, T.ip_25, T.ip_3, T.ip_9, T.s8_32, T.s8_9, T.sl_32, T.sl_9, T.st_32, T.st_9, T.un_32, T.un_9, c1, c2, hn, hv, hox.1, hox.2, len_own hO, conv_in hcut, conv_in hO.row, ht]
          exact ⟨by omega, hUU⟩
        · rw [if_neg (fun e => ht e.2)]
          have d3 := eq_false ht
          simp (config := { dsimp := false, maxSteps := 10000000 }) (disch := omega) only [go_sem, reduceIte, Nat.reduceEqDiff, reduceCtorEq, Nat.reduceAdd, Nat.reduceMul, Int.reduceToNat, Int.reduceLE, Int.reduceLT, Int.reduceEq, Int.reduceNe, Nat.reduceLeDiff, Int.reducePow, Nat.reducePow, Nat.reduceLT, Nat.reduceSub, Nat.reduceMod, Nat.reduceDiv, slot_neg, slot_pos, T.es_32, T.gf_16, T.gf_39, T.ib_25, T.ib_3, T.ib_9, T.ii_32, T.ii_9, T.ip_25, T.ip_3, T.ip_9, T.s8_32, T.s8_9, T.sl_32, T.sl_9, T.st_32, T.st_9, T.un_32, T.un_9, c1, c2, hn, hv, hox.1, hox.2, len_own hO, conv_in hcut, conv_in hO.row, d3]
          exact ⟨by omega, hUU⟩
      · have c2 : ((g.2.1 : Int) = (w.length : Int)) = False := eq_false (by omega)
        rw [if_neg (fun e => hn e.1)]
        simp (config := { dsimp := false, maxSteps := 10000000 }) (disch := omega) only [go_sem, reduceIte, Nat.reduceEqDiff, reduceCtorEq, Nat.reduceAdd, Nat.reduceMul, Int.reduceToNat, Int.reduceLE, Int.reduceLT, Int.reduceEq, Int.reduceNe, Nat.reduceLeDiff, Int.reducePow, Nat.reducePow, Nat.reduceLT, Nat.reduceSub, Nat.reduceMod, Nat.reduceDiv, slot_neg, slot_pos, T.es_32, T.gf_16, T.gf_39, T.ib_25, T.ib_3, T.ib_9, T.ii_32, T.ii_9, T.ip_25, T.ip_3, T.ip_9, T.s8_32, T.s8_9, T.sl_32, T.sl_9, T.st_32, T.st_9, T.un_32, T.un_9, c1, c2, hv, hox.1, hox.2, len_own hO]
        exact hUU
  · have c1 : (g.2.2 = 0) = False := eq_false he
    rw [if_pos he]
    simp (config := { dsimp := false, maxSteps := 10000000 }) (disch := omega) only [go_sem, reduceIte, Nat.reduceEqDiff, reduceCtorEq, Nat.reduceAdd, Nat.reduceMul, Int.reduceToNat, Int.reduceLE, Int.reduceLT, Int.reduceEq, Int.reduceNe, Nat.reduceLeDiff, Int.reducePow, Nat.reducePow, Nat.reduceLT, Nat.reduceSub, Nat.reduceMod, Nat.reduceDiv, slot_neg, slot_pos, T.es_32, T.gf_16, T.gf_39, T.ib_25, T.ib_3, T.ib_9, T.ii_32, T.ii_9, T.ip_25, T.ip_3, T.ip_9, T.s8_32, T.s8_9, T.sl_32, T.sl_9, T.st_32, T.st_9, T.un_32, T.un_9, c1]
    exact hU
end Ph
