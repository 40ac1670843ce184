import Derived.Test.YtcbgjjbbeeoekaaDoorE2
set_option maxRecDepth 100000
set_option maxHeartbeats 4000000
set_option linter.unusedSimpArgs false
set_option linter.unusedVariables false
namespace Ph
open Go Go.Proofs
attribute [local irreducible] Value.cells
attribute [local go_sem ↓] y_move y_assign y_pick y_nil y_bin y_un y_fa y_field y_ext y_ia y_ix y_slice y_build y_mf y_rg y_nx y_en y_mm y_lk y_mu y_del y_load y_len y_cap y_min y_max y_conv y_bs y_mk y_alloc y_box y_store y_clear y_app y_callf y_callt s_move s_assign s_pick s_nil s_bin s_un s_fa s_field s_ext s_ia s_ix s_slice s_conv s_build s_bs s_mf s_alloc s_box s_rg s_nx s_en s_mm s_lk s_mu s_del s_load s_store s_len s_clear s_cap s_min s_max s_app s_call q_call q_move q_assign q_pick q_nil q_bin q_un q_fa q_field q_ext q_ia q_ix q_slice q_conv q_build q_mf q_lk q_load q_len q_cap q_min q_max l_nil l_move l_assign l_pick l_nilc l_bin l_un l_fa l_field l_ext l_ia l_ix l_slice l_conv l_build l_mf l_lk l_load l_len l_cap l_min l_max l_call put_eq putN_eq o_nil o_plain o_gate v_nil v_plain v_gate vc_skip vc_region vc_seq vc_cond vc_block vc_loop vc_rf vc_exit vc_ret blk_normal blk_ret blk_exit on_normal on_ret on_exit vc_drawn draw_q s_mk l_bs l_mk l_rg l_nx l_en l_mm l_mu l_del l_alloc l_box l_store l_app l_clear pl_done pl_takeS pl_take pl_alt pl_stop one_plain one_gate
attribute [local go_sem] clear_nil clear_sl onAgg_a onTuple_t onFn_f onFn_y onFunc_f c_int c_nil c_sl c_str sl_sl sl_nil sl_str ix_str ix_agg n_nil n_sl n_str app_eq app_eqZ k_nil k_sl cap_n len_sl len_str len_mn len_m onMap_m onIter_i rg_n rg_m nx_p en_p lk_n lk_m up_m setM_n setM_s del_n del_m kt_s kt_i upd_some upd_none ev_tmp ev_const ev_func rd_some gdst_eq otmp_t otmp_c get_put get_alloc next_put next_alloc get_app next_app init_a resV1 resV2 onPtr_ptr onBool_b onInt_i onSlice_s onSome_s onCells_c lett_eq gate_tt gate_tf gate_ff gate_ft gate_dt gate_df also_eq bin un minmax io_none io_some bo_none bo_some partOf List.getElem?_cons_zero List.getElem?_cons_succ List.getElem?_toArray Option.map_some Option.map_none Option.bind_some ne_eq not_true_eq_false not_false_eq_true false_implies true_implies and_true true_and and_self Bool.false_eq_true Nat.zero_add Nat.add_zero List.size_toArray List.length_cons List.length_nil List.map_toArray List.map_cons List.map_nil Array.getD_eq_getD_getElem? Option.getD_some Bool.not_true Bool.not_false Bool.not_eq_true Option.isNone_some Option.isNone_none List.append_toArray List.append_nil List.nil_append List.cons_append decide_true decide_false in_nil in_cons Bool.and_false Bool.and_true Bool.or_false Bool.true_or Bool.false_or get_mask next_mask get_unmask next_unmask ac_move ac_assign ac_pick ac_nil ac_bin ac_un ac_fa ac_field ac_ext ac_ia ac_ix ac_slice ac_build ac_mf ac_call ac_len ac_lk ac_cap ac_min ac_max accM_m accM_n accM_s accM_t ac_load ac_conv accP_p accS_s accS_n accS_i accS_t fixed_ro fixed_lock fixed_own get_ro next_ro lock_live' lock_cells List.mem_cons List.not_mem_nil or_false false_or or_true true_or and_false false_and IntKind.bits Int.natCast_zero Int.natCast_one size_str data_str list_str mk_str ext_str app_str bytes_str w_byte w_byteu Int.toNat_natCast Int.toNat_zero Int.toNat_one Nat.sub_zero ge_iff_le gt_iff_lt Nat.le_refl Int.le_refl List.drop_zero Int.ofNat_eq_natCast Int.natCast_nonneg Int.sub_zero oc_int oc_bool oc_str oc_ptr oc_sl oc_map oc_func List.set_cons_zero List.set_cons_succ Nat.mul_one List.all_cons List.all_nil Bool.and_self res_nil res_tmp res_cell tup_one tup_two tup_nil fill_nil repl_zero cells_agg List.append_eq List.toList_toArray Nat.zero_mul Nat.one_mul repl_one repl_two onSome_build fill_cons onSome_lit splice_eq cells_int cells_bool cells_str cells_ptr cells_sl cells_map cells_func loadK_n loadK_s load_k storeK_n storeK_s store_k all_arr List.take_zero List.take_succ_cons List.drop_succ_cons List.take_nil List.drop_nil lk_own lk_ro lk_lock lk_lk fixed_lk gate_nt gate_nf gate3_b gate3_u undef Bool.true_and Bool.false_and nx_l nx_r nx_lt put_put resV0
attribute [local go_sem] str_inj size_str
/-! The document's Labels. -/
theorem letter_ph (h : Heap) (c : UInt8) : @CallsH Tryd.prog 26 #[.int .u8 (c.toNat : Int)] h ⟨fun u _ => u = .bool (letB c)⟩ := by
  have hc := c.toNat_lt
  have e : letB c = ((decide (97 ≤ (c.toNat : Int)) && decide ((c.toNat : Int) ≤ 122)) || ((decide (48 ≤ (c.toNat : Int)) && decide ((c.toNat : Int) ≤ 57)) || (decide ((c.toNat : Int) = 45) || (decide ((c.toNat : Int) = 95) || decide ((c.toNat : Int) = 42))))) := by
    unfold letB
    congr 1
    · congr 1 <;> exact decide_eq_decide.2 (by omega)
    · congr 1
      · congr 1 <;> exact decide_eq_decide.2 (by omega)
      · congr 1
        · exact decide_eq_decide.2 (by omega)
        · congr 1 <;> exact decide_eq_decide.2 (by omega)
  rw [e]
  by_cases h1 : 97 ≤ (c.toNat : Int) <;> by_cases h2 : (c.toNat : Int) ≤ 122 <;> by_cases h3 : 48 ≤ (c.toNat : Int) <;> by_cases h4 : (c.toNat : Int) ≤ 57 <;> by_cases h5 : (c.toNat : Int) = 45 <;> by_cases h6 : (c.toNat : Int) = 95 <;> first | (exfalso; omega) | skip
  all_goals
    (refine calls_of_vc [] hm Tryd.func26 rfl (ts := [2]) rfl (by kernel_rfl) (by simp) ?_; simp (config := { dsimp := false, maxSteps := 10000000 }) (disch := omega) only [go_sem, reduceIte, Nat.reduceEqDiff, reduceCtorEq, Nat.reduceAdd, Nat.reduceMul, Int.reduceToNat, Int.reduceLE, Int.reduceLT, Int.reduceEq, Int.reduceNe, Nat.reduceLeDiff, Int.reducePow, Nat.reducePow, Nat.reduceLT, Nat.reduceSub, Nat.reduceMod, Nat.reduceDiv, slot_neg, slot_pos, T.ib_5, T.ip_5, init_a, h1, h2, h3, h4, h5, h6])
  all_goals try
    by_cases h7 : (c.toNat : Int) = 42
    · simp (config := { dsimp := false, maxSteps := 10000000 }) (disch := omega) only [go_sem, reduceIte, Nat.reduceEqDiff, reduceCtorEq, Nat.reduceAdd, Nat.reduceMul, Int.reduceToNat, Int.reduceLE, Int.reduceLT, Int.reduceEq, Int.reduceNe, Nat.reduceLeDiff, Int.reducePow, Nat.reducePow, Nat.reduceLT, Nat.reduceSub, Nat.reduceMod, Nat.reduceDiv, slot_neg, slot_pos, T.ib_5, T.ip_5, h7]
    · simp (config := { dsimp := false, maxSteps := 10000000 }) (disch := omega) only [go_sem, reduceIte, Nat.reduceEqDiff, reduceCtorEq, Nat.reduceAdd, Nat.reduceMul, Int.reduceToNat, Int.reduceLE, Int.reduceLT, Int.reduceEq, Int.reduceNe, Nat.reduceLeDiff, Int.reducePow, Nat.reducePow, Nat.reduceLT, Nat.reduceSub, Nat.reduceMod, Nat.reduceDiv, slot_neg, slot_pos, T.ib_5, T.ip_5, h7]
theorem take_more {l : List UInt8} {i f : Nat} (hf : f ≤ i) (hi : i < l.length) : (l.drop f).take (i + 1 - f) = (l.drop f).take (i - f) ++ [l.getD i 0] := by
  rw [show i + 1 - f = (i - f) + 1 from by omega, List.take_add_one, List.getElem?_drop, show f + (i - f) = i from by omega]
  simp [List.getElem?_eq_getElem hi]
theorem drop_more {l : List UInt8} {i : Nat} (hi : i < l.length) : l.drop i = l.getD i 0 :: l.drop (i + 1) := by
  rw [List.drop_eq_getElem_cons hi]; simp [List.getElem?_eq_getElem hi]
def ends (l : List UInt8) (ps : List (List UInt8)) (o : Option (List (List UInt8))) : Option (List (List UInt8)) := if l = [] ∨ 254 < l.length then none else o.map (ps ++ ·)
theorem ends_none {l ps} : ends l ps none = none := by unfold ends; split <;> rfl
theorem DocLabels_ph (h : Heap) (l : List UInt8) (hl : l.length < 8796093022208) :
    @CallsH Tryd.prog 28 #[.string (str l)] h ⟨fun u H => LabR h l u H⟩ := by
  by_cases h1 : l = [46]
  · subst h1
    have e : nameOf [46] = some [] := by unfold nameOf; rw [if_pos rfl]
    (refine calls_of_vc [] hm Tryd.func28 rfl (ts := [2, 3]) rfl (by kernel_rfl) (by simp) ?_; simp (config := { dsimp := false, maxSteps := 10000000 }) (disch := omega) only [go_sem, reduceIte, Nat.reduceEqDiff, reduceCtorEq, Nat.reduceAdd, Nat.reduceMul, Int.reduceToNat, Int.reduceLE, Int.reduceLT, Int.reduceEq, Int.reduceNe, Nat.reduceLeDiff, Int.reducePow, Nat.reducePow, Nat.reduceLT, Nat.reduceSub, Nat.reduceMod, Nat.reduceDiv, slot_neg, slot_pos, T.eb_59, T.es_9, T.ez_59, T.gf_26, T.ib_3, T.ib_5, T.ib_9, T.ii_59, T.ii_9, T.ip_3, T.ip_5, T.ip_9, T.s8_59, T.s8_9, T.sl_59, T.sl_9, T.st_59, T.st_9, T.un_59, T.un_9, init_a, mk_str])
    exact ⟨Upd.refl _ _, by rw [e]; exact ⟨_, [], rfl, OwnRow.nil _, by simp⟩⟩
  have hn1 : (l = [46]) = False := eq_false h1
  (refine calls_of_vc [] hm Tryd.func28 rfl (ts := [2, 3]) rfl (by kernel_rfl) (by simp) ?_; simp (config := { dsimp := false, maxSteps := 10000000 }) (disch := omega) only [go_sem, reduceIte, Nat.reduceEqDiff, reduceCtorEq, Nat.reduceAdd, Nat.reduceMul, Int.reduceToNat, Int.reduceLE, Int.reduceLT, Int.reduceEq, Int.reduceNe, Nat.reduceLeDiff, Int.reducePow, Nat.reducePow, Nat.reduceLT, Nat.reduceSub, Nat.reduceMod, Nat.reduceDiv, slot_neg, slot_pos, T.eb_59, T.es_9, T.ez_59, T.gf_26, T.ib_3, T.ib_5, T.ib_9, T.ii_59, T.ii_9, T.ip_3, T.ip_5, T.ip_9, T.s8_59, T.s8_9, T.sl_59, T.sl_9, T.st_59, T.st_9, T.un_59, T.un_9, init_a, hn1, mk_str])
  refine loop_intro [] hm (fun r H => ∃ (i f : Nat) (v : Value) (D : List Nat) (ps : List (List UInt8)), i ≤ l.length ∧ f ≤ i ∧ ps.length ≤ f ∧ r 0 = .string (str l) ∧ r 4 = v ∧ r 5 = .int .i64 f ∧ r 6 = .int .i64 i ∧ OwnRow tE H v D ps ∧ (∀ d ∈ D, h.next ≤ d) ∧ Upd h H [] ∧
    nameOf l = ends l ps (partsOf (l.drop i) ((l.drop f).take (i - f)))) (fun r _ => match r 6 with | .int _ i => l.length - i.toNat | _ => 0) ?_ ?_
  · refine ⟨0, 0, _, [], [], by omega, by omega, by simp, by simp [upd, initR], by simp [upd, initR], by simp [upd, initR], by simp [upd, initR], OwnRow.nil _, by simp, Upd.refl _ _, ?_⟩
    unfold nameOf ends
    rw [if_neg h1]
    simp
  · rintro r H ⟨i, f, v, D, ps, hi, hf, hpf, q0, q4, q5, q6, hO, hD, hU, hnm⟩
    by_cases hil : i < l.length
    · have c1 : ((i : Int) < (l.length : Int)) = True := eq_true (by omega)
      have wi : IntKind.i64.wrap ((i : Int) + 1) = ((i + 1 : Nat) : Int) := by rw [i64wrap] <;> omega
      have ws : IntKind.i64.wrap ((i : Int) - (f : Int)) = ((i - f : Nat) : Int) := by rw [i64wrap] <;> omega
      have hlen : ((l.drop f).take (i - f)).length = i - f := by simp; omega
      have hcur0 : (l.drop f).take (i - f) = [] ↔ i = f := ⟨fun h => by rw [h] at hlen; simp at hlen; omega, fun h => by subst h; simp⟩
      rw [drop_more hil, partsOf] at hnm
      have hmore := take_more hf hil
      obtain ⟨c, hc⟩ : ∃ c, l.getD i 0 = c := ⟨_, rfl⟩
      rw [hc] at hnm hmore
      by_cases c46 : c = 46
      · have d0 : ((c.toNat : Int) = 46) = True := eq_true (by rw [c46]; rfl)
        rw [if_pos c46] at hnm
        by_cases hif : i = f
        · have d1 : ((i : Int) = (f : Int)) = True := eq_true (by omega)
          rw [if_pos (.inl (hcur0.2 hif)), ends_none] at hnm
          simp (config := { dsimp := false, maxSteps := 10000000 }) (disch := omega) only [go_sem, reduceIte, Nat.reduceEqDiff, reduceCtorEq, Nat.reduceAdd, Nat.reduceMul, Int.reduceToNat, Int.reduceLE, Int.reduceLT, Int.reduceEq, Int.reduceNe, Nat.reduceLeDiff, Int.reducePow, Nat.reducePow, Nat.reduceLT, Nat.reduceSub, Nat.reduceMod, Nat.reduceDiv, slot_neg, slot_pos, T.eb_59, T.es_9, T.ez_59, T.gf_26, T.ib_3, T.ib_5, T.ib_9, T.ii_59, T.ii_9, T.ip_3, T.ip_5, T.ip_9, T.s8_59, T.s8_9, T.sl_59, T.sl_9, T.st_59, T.st_9, T.un_59, T.un_9, q0, q4, q5, q6, c1, hc, d0, d1]
          exact ⟨hU, by rw [hnm]⟩
        have d1 : ((i : Int) = (f : Int)) = False := eq_false (by omega)
        by_cases h63 : 63 < i - f
        · have d2 : ((63 : Int) < ((i - f : Nat) : Int)) = True := eq_true (by omega)
          rw [if_pos (.inr (by rw [hlen]; exact h63)), ends_none] at hnm
          simp (config := { dsimp := false, maxSteps := 10000000 }) (disch := omega) only [go_sem, reduceIte, Nat.reduceEqDiff, reduceCtorEq, Nat.reduceAdd, Nat.reduceMul, Int.reduceToNat, Int.reduceLE, Int.reduceLT, Int.reduceEq, Int.reduceNe, Nat.reduceLeDiff, Int.reducePow, Nat.reducePow, Nat.reduceLT, Nat.reduceSub, Nat.reduceMod, Nat.reduceDiv, slot_neg, slot_pos, T.eb_59, T.es_9, T.ez_59, T.gf_26, T.ib_3, T.ib_5, T.ib_9, T.ii_59, T.ii_9, T.ip_3, T.ip_5, T.ip_9, T.s8_59, T.s8_9, T.sl_59, T.sl_9, T.st_59, T.st_9, T.un_59, T.un_9, q0, q4, q5, q6, c1, hc, d0, d1, ws, d2]
          exact ⟨hU, by rw [hnm]⟩
        have d2 : ((63 : Int) < ((i - f : Nat) : Int)) = False := eq_false (by omega)
        rw [if_neg (by rw [hlen, hcur0]; omega)] at hnm
        have ho := hO.row.one
        simp (config := { dsimp := false, maxSteps := 10000000 }) (disch := omega) only [go_sem, reduceIte, Nat.reduceEqDiff, reduceCtorEq, Nat.reduceAdd, Nat.reduceMul, Int.reduceToNat, Int.reduceLE, Int.reduceLT, Int.reduceEq, Int.reduceNe, Nat.reduceLeDiff, Int.reducePow, Nat.reducePow, Nat.reduceLT, Nat.reduceSub, Nat.reduceMod, Nat.reduceDiv, slot_neg, slot_pos, T.eb_59, T.es_9, T.ez_59, T.gf_26, T.ib_3, T.ib_5, T.ib_9, T.ii_59, T.ii_9, T.ip_3, T.ip_5, T.ip_9, T.s8_59, T.s8_9, T.sl_59, T.sl_9, T.st_59, T.st_9, T.un_59, T.un_9, q0, q4, q5, q6, c1, hc, d0, d1, ws, d2, ho.1, ho.2]
        refine ⟨by omega, app_own (E := tE) (ns := [(l.drop f).take (i - f)]) (hO.upd (Upd.alloc _ _ []) (by simp)) rfl (by simp [Enc.flat, tE]) rfl (by simp only [List.length_singleton]; omega) fun u3 H3 D3 hO3 hU3 hD3 => ?_⟩
        have ho3 := hO3.row.one
        simp (config := { dsimp := false, maxSteps := 10000000 }) (disch := omega) only [go_sem, reduceIte, Nat.reduceEqDiff, reduceCtorEq, Nat.reduceAdd, Nat.reduceMul, Int.reduceToNat, Int.reduceLE, Int.reduceLT, Int.reduceEq, Int.reduceNe, Nat.reduceLeDiff, Int.reducePow, Nat.reducePow, Nat.reduceLT, Nat.reduceSub, Nat.reduceMod, Nat.reduceDiv, slot_neg, slot_pos, T.eb_59, T.es_9, T.ez_59, T.gf_26, T.ib_3, T.ib_5, T.ib_9, T.ii_59, T.ii_9, T.ip_3, T.ip_5, T.ip_9, T.s8_59, T.s8_9, T.sl_59, T.sl_9, T.st_59, T.st_9, T.un_59, T.un_9, q0, q4, q5, q6, wi, ho3.1, ho3.2]
        refine ⟨⟨i + 1, i + 1, u3, D3, ps ++ [(l.drop f).take (i - f)], hil, Nat.le_refl _, by simp; omega, rfl, rfl, rfl, hO3, fun d hd => ?_, (hU.trans (Upd.alloc _ _ []) (by simp)).trans hU3 fun d hd => .inr (hD d hd), ?_⟩, by omega⟩
        · rcases hD3 d hd with h9 | h9
          · exact hD d h9
          · have := hU.1; have : H.next + 1 ≤ d := h9; omega
        · rw [hnm, Nat.sub_self, List.take_zero]
          unfold ends
          cases partsOf (l.drop (i + 1)) [] <;> simp
      · have d0 : ((c.toNat : Int) = 46) = False := eq_false fun e => c46 (UInt8.toNat_inj.1 (by show c.toNat = 46; omega))
        rw [if_neg c46] at hnm
        simp (config := { dsimp := false, maxSteps := 10000000 }) (disch := omega) only [go_sem, reduceIte, Nat.reduceEqDiff, reduceCtorEq, Nat.reduceAdd, Nat.reduceMul, Int.reduceToNat, Int.reduceLE, Int.reduceLT, Int.reduceEq, Int.reduceNe, Nat.reduceLeDiff, Int.reducePow, Nat.reducePow, Nat.reduceLT, Nat.reduceSub, Nat.reduceMod, Nat.reduceDiv, slot_neg, slot_pos, T.eb_59, T.es_9, T.ez_59, T.gf_26, T.ib_3, T.ib_5, T.ib_9, T.ii_59, T.ii_9, T.ip_3, T.ip_5, T.ip_9, T.s8_59, T.s8_9, T.sl_59, T.sl_9, T.st_59, T.st_9, T.un_59, T.un_9, q0, q4, q5, q6, c1, hc, d0]
        refine CallsH.pure _ rfl (letter_ph _ c) ?_
        by_cases hlb : letB c = true
        · rw [if_pos hlb] at hnm
          simp (config := { dsimp := false, maxSteps := 10000000 }) (disch := omega) only [go_sem, reduceIte, Nat.reduceEqDiff, reduceCtorEq, Nat.reduceAdd, Nat.reduceMul, Int.reduceToNat, Int.reduceLE, Int.reduceLT, Int.reduceEq, Int.reduceNe, Nat.reduceLeDiff, Int.reducePow, Nat.reducePow, Nat.reduceLT, Nat.reduceSub, Nat.reduceMod, Nat.reduceDiv, slot_neg, slot_pos, T.eb_59, T.es_9, T.ez_59, T.gf_26, T.ib_3, T.ib_5, T.ib_9, T.ii_59, T.ii_9, T.ip_3, T.ip_5, T.ip_9, T.s8_59, T.s8_9, T.sl_59, T.sl_9, T.st_59, T.st_9, T.un_59, T.un_9, q0, q4, q5, q6, hlb, wi]
          exact ⟨⟨i + 1, f, v, D, ps, hil, by omega, hpf, rfl, rfl, rfl, hO, hD, hU, by rw [hnm, hmore]⟩, by omega⟩
        · rw [if_neg hlb, ends_none] at hnm
          simp (config := { dsimp := false, maxSteps := 10000000 }) (disch := omega) only [go_sem, reduceIte, Nat.reduceEqDiff, reduceCtorEq, Nat.reduceAdd, Nat.reduceMul, Int.reduceToNat, Int.reduceLE, Int.reduceLT, Int.reduceEq, Int.reduceNe, Nat.reduceLeDiff, Int.reducePow, Nat.reducePow, Nat.reduceLT, Nat.reduceSub, Nat.reduceMod, Nat.reduceDiv, slot_neg, slot_pos, T.eb_59, T.es_9, T.ez_59, T.gf_26, T.ib_3, T.ib_5, T.ib_9, T.ii_59, T.ii_9, T.ip_3, T.ip_5, T.ip_9, T.s8_59, T.s8_9, T.sl_59, T.sl_9, T.st_59, T.st_9, T.un_59, T.un_9, q0, q4, q5, q6, hlb]
          exact ⟨hU, by rw [hnm]⟩
    · obtain rfl : i = l.length := by omega
      have c1 : ((l.length : Int) < (l.length : Int)) = False := eq_false (by omega)
      have w1 : IntKind.i64.wrap ((l.length : Int) + 1) = (l.length : Int) + 1 := i64wrap (by omega) (by omega)
      have hlen : ((l.drop f).take (l.length - f)).length = l.length - f := by simp
      have ho := hO.row.one
      simp (config := { dsimp := false, maxSteps := 10000000 }) (disch := omega) only [go_sem, reduceIte, Nat.reduceEqDiff, reduceCtorEq, Nat.reduceAdd, Nat.reduceMul, Int.reduceToNat, Int.reduceLE, Int.reduceLT, Int.reduceEq, Int.reduceNe, Nat.reduceLeDiff, Int.reducePow, Nat.reducePow, Nat.reduceLT, Nat.reduceSub, Nat.reduceMod, Nat.reduceDiv, slot_neg, slot_pos, T.eb_59, T.es_9, T.ez_59, T.gf_26, T.ib_3, T.ib_5, T.ib_9, T.ii_59, T.ii_9, T.ip_3, T.ip_5, T.ip_9, T.s8_59, T.s8_9, T.sl_59, T.sl_9, T.st_59, T.st_9, T.un_59, T.un_9, q0, q4, q5, q6, c1, w1, ho.1, ho.2]
      rw [List.drop_length, partsOf] at hnm
      refine ⟨fun h1 => ?_, fun h1 => ?_⟩
      · have e0 : f = l.length := by omega
        rw [if_pos (by rw [← List.length_eq_zero_iff, hlen]; omega)] at hnm
        refine ⟨fun h2 => ⟨fun h3 => ⟨hU, ?_⟩, fun h3 => ⟨hU, ?_⟩⟩, fun h2 => ⟨hU, ?_⟩⟩
        · rw [hnm, ends, if_pos (Or.inr (by omega))]
        · rw [hnm, ends, if_neg (by simp [h2]; omega)]
          exact ⟨v, D, rfl, by simpa using hO, hD⟩
        · rw [hnm, ends, if_pos (Or.inl h2)]
      · rw [if_neg (fun e => by rw [e] at hlen; simp at hlen; omega)] at hnm
        refine ⟨hU, ?_⟩
        rw [hnm, ends_none]
end Ph
