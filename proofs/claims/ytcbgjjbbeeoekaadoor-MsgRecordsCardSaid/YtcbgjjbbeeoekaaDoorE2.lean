import Derived.Test.YtcbgjjbbeeoekaaDoorE1
set_option maxRecDepth 100000
set_option maxHeartbeats 4000000
set_option linter.unusedSimpArgs false
set_option linter.unusedVariables false
namespace Ph
open Go Go.Proofs
attribute [local irreducible] Value.cells
attribute [local go_sem ↓] y_move y_assign y_pick y_nil y_bin y_un y_fa y_field y_ext y_ia y_ix y_slice y_build y_mf y_rg y_nx y_en y_mm y_lk y_mu y_del y_load y_len y_cap y_min y_max y_conv y_bs y_mk y_alloc y_box y_store y_clear y_app y_callf y_callt s_move s_assign s_pick s_nil s_bin s_un s_fa s_field s_ext s_ia s_ix s_slice s_conv s_build s_bs s_mf s_alloc s_box s_rg s_nx s_en s_mm s_lk s_mu s_del s_load s_store s_len s_clear s_cap s_min s_max s_app s_call q_call q_move q_assign q_pick q_nil q_bin q_un q_fa q_field q_ext q_ia q_ix q_slice q_conv q_build q_mf q_lk q_load q_len q_cap q_min q_max l_nil l_move l_assign l_pick l_nilc l_bin l_un l_fa l_field l_ext l_ia l_ix l_slice l_conv l_build l_mf l_lk l_load l_len l_cap l_min l_max l_call put_eq putN_eq o_nil o_plain o_gate v_nil v_plain v_gate vc_skip vc_region vc_seq vc_cond vc_block vc_loop vc_rf vc_exit vc_ret blk_normal blk_ret blk_exit on_normal on_ret on_exit vc_drawn draw_q s_mk l_bs l_mk l_rg l_nx l_en l_mm l_mu l_del l_alloc l_box l_store l_app l_clear pl_done pl_takeS pl_take pl_alt pl_stop one_plain one_gate
attribute [local go_sem] clear_nil clear_sl onAgg_a onTuple_t onFn_f onFn_y onFunc_f c_int c_nil c_sl c_str sl_sl sl_nil sl_str ix_str ix_agg n_nil n_sl n_str app_eq app_eqZ k_nil k_sl cap_n len_sl len_str len_mn len_m onMap_m onIter_i rg_n rg_m nx_p en_p lk_n lk_m up_m setM_n setM_s del_n del_m kt_s kt_i upd_some upd_none ev_tmp ev_const ev_func rd_some gdst_eq otmp_t otmp_c get_put get_alloc next_put next_alloc get_app next_app init_a resV1 resV2 onPtr_ptr onBool_b onInt_i onSlice_s onSome_s onCells_c lett_eq gate_tt gate_tf gate_ff gate_ft gate_dt gate_df also_eq bin un minmax io_none io_some bo_none bo_some partOf List.getElem?_cons_zero List.getElem?_cons_succ List.getElem?_toArray Option.map_some Option.map_none Option.bind_some ne_eq not_true_eq_false not_false_eq_true false_implies true_implies and_true true_and and_self Bool.false_eq_true Nat.zero_add Nat.add_zero List.size_toArray List.length_cons List.length_nil List.map_toArray List.map_cons List.map_nil Array.getD_eq_getD_getElem? Option.getD_some Bool.not_true Bool.not_false Bool.not_eq_true Option.isNone_some Option.isNone_none List.append_toArray List.append_nil List.nil_append List.cons_append decide_true decide_false in_nil in_cons Bool.and_false Bool.and_true Bool.or_false Bool.true_or Bool.false_or get_mask next_mask get_unmask next_unmask ac_move ac_assign ac_pick ac_nil ac_bin ac_un ac_fa ac_field ac_ext ac_ia ac_ix ac_slice ac_build ac_mf ac_call ac_len ac_lk ac_cap ac_min ac_max accM_m accM_n accM_s accM_t ac_load ac_conv accP_p accS_s accS_n accS_i accS_t fixed_ro fixed_lock fixed_own get_ro next_ro lock_live' lock_cells List.mem_cons List.not_mem_nil or_false false_or or_true true_or and_false false_and IntKind.bits Int.natCast_zero Int.natCast_one size_str data_str list_str mk_str ext_str app_str bytes_str w_byte w_byteu Int.toNat_natCast Int.toNat_zero Int.toNat_one Nat.sub_zero ge_iff_le gt_iff_lt Nat.le_refl Int.le_refl List.drop_zero Int.ofNat_eq_natCast Int.natCast_nonneg Int.sub_zero oc_int oc_bool oc_str oc_ptr oc_sl oc_map oc_func List.set_cons_zero List.set_cons_succ Nat.mul_one List.all_cons List.all_nil Bool.and_self res_nil res_tmp res_cell tup_one tup_two tup_nil fill_nil repl_zero cells_agg List.append_eq List.toList_toArray Nat.zero_mul Nat.one_mul repl_one repl_two onSome_build fill_cons onSome_lit splice_eq cells_int cells_bool cells_str cells_ptr cells_sl cells_map cells_func loadK_n loadK_s load_k storeK_n storeK_s store_k all_arr List.take_zero List.take_succ_cons List.drop_succ_cons List.take_nil List.drop_nil lk_own lk_ro lk_lock lk_lk fixed_lk gate_nt gate_nf gate3_b gate3_u undef Bool.true_and Bool.false_and nx_l nx_r nx_lt put_put resV0
attribute [local go_sem] str_inj size_str
/-- what a list of parts is, in a heap -/
def LabR (h : Heap) (l : List UInt8) (u : Value) (H : Heap) : Prop := Upd h H [] ∧ match nameOf l with
  | none => u = .tuple #[.slice none 0 0, .int .i64 14]
  | some ps => ∃ v D, u = .tuple #[v, .int .i64 0] ∧ OwnRow tE H v D ps ∧ ∀ d ∈ D, h.next ≤ d
theorem dots_row (h : Heap) (b : List UInt8) : OwnRow tE (h.alloc (.cells ((dots b).map fun p => .string (str p)) .own)) (.slice (some ⟨h.next, 0, none⟩) (dots b).length 1) [h.next] (dots b) :=
  .inr ⟨h.next, 0, _, rfl, Nat.lt_succ_self _, rfl, by rw [get_alloc, if_pos rfl], by simp [tE], by rw [t_flat, List.drop_zero]; show List.take ((dots b).length * 1) _ = _; rw [Nat.mul_one, List.take_of_length_le (by simp)]⟩
theorem Labels_ph (h : Heap) (l : List UInt8) (hl : l.length < 9223372036854775807) :
    @CallsH Tryd.prog 24 #[.string (str l)] h ⟨fun u H => LabR h l u H⟩ := by
  by_cases h1 : l = [46]
  · subst h1
    have e : nameOf [46] = some [] := by unfold nameOf; rw [if_pos rfl]
    (refine calls_of_vc [] hm Tryd.func24 rfl (ts := [2, 3]) rfl (by kernel_rfl) (by simp) ?_; simp (config := { dsimp := false, maxSteps := 10000000 }) (disch := omega) only [go_sem, reduceIte, Nat.reduceEqDiff, reduceCtorEq, Nat.reduceAdd, Nat.reduceMul, Int.reduceToNat, Int.reduceLE, Int.reduceLT, Int.reduceEq, Int.reduceNe, Nat.reduceLeDiff, Int.reducePow, Nat.reducePow, Nat.reduceLT, Nat.reduceSub, Nat.reduceMod, Nat.reduceDiv, slot_neg, slot_pos, T.ag_9, T.es_59, T.gf_36, T.gf_37, T.gf_38, T.ib_3, T.ib_9, T.ii_59, T.ii_9, T.ip_3, T.ip_9, T.s8_59, T.s8_9, T.sl_59, T.sl_9, T.st_59, T.st_9, T.un_59, T.un_9, init_a, mk_str])
    exact ⟨Upd.refl _ _, by rw [e]; exact ⟨_, [], rfl, OwnRow.nil _, by simp⟩⟩
  have hn1 : (l = [46]) = False := eq_false h1
  have w1 : IntKind.i64.wrap ((l.length : Int) + 1) = (l.length : Int) + 1 := i64wrap (by omega) (by omega)
  (refine calls_of_vc [] hm Tryd.func24 rfl (ts := [2, 3]) rfl (by kernel_rfl) (by simp) ?_; simp (config := { dsimp := false, maxSteps := 10000000 }) (disch := omega) only [go_sem, reduceIte, Nat.reduceEqDiff, reduceCtorEq, Nat.reduceAdd, Nat.reduceMul, Int.reduceToNat, Int.reduceLE, Int.reduceLT, Int.reduceEq, Int.reduceNe, Nat.reduceLeDiff, Int.reducePow, Nat.reducePow, Nat.reduceLT, Nat.reduceSub, Nat.reduceMod, Nat.reduceDiv, slot_neg, slot_pos, T.ag_9, T.es_59, T.gf_36, T.gf_37, T.gf_38, T.ib_3, T.ib_9, T.ii_59, T.ii_9, T.ip_3, T.ip_9, T.s8_59, T.s8_9, T.sl_59, T.sl_9, T.st_59, T.st_9, T.un_59, T.un_9, init_a, hn1, mk_str])
  refine CallsH.pure _ rfl ((Cut_ph _ l [46] (by omega)).mono fun _ _ h => h.1) ?_
  by_cases hs : Go.Lib.hasSuffix l [46] = false ∨ 254 < l.length
  · have e := nameOf_none h1 hs
    by_cases hs1 : Go.Lib.hasSuffix l [46] = true
    · have c2 : ((255 : Int) < (l.length : Int) + 1) = True := eq_true (by rcases hs with hs | hs; (rw [hs1] at hs; cases hs); omega)
      simp (config := { dsimp := false, maxSteps := 10000000 }) (disch := omega) only [go_sem, reduceIte, Nat.reduceEqDiff, reduceCtorEq, Nat.reduceAdd, Nat.reduceMul, Int.reduceToNat, Int.reduceLE, Int.reduceLT, Int.reduceEq, Int.reduceNe, Nat.reduceLeDiff, Int.reducePow, Nat.reducePow, Nat.reduceLT, Nat.reduceSub, Nat.reduceMod, Nat.reduceDiv, slot_neg, slot_pos, T.ag_9, T.es_59, T.gf_36, T.gf_37, T.gf_38, T.ib_3, T.ib_9, T.ii_59, T.ii_9, T.ip_3, T.ip_9, T.s8_59, T.s8_9, T.sl_59, T.sl_9, T.st_59, T.st_9, T.un_59, T.un_9, hs1, w1, c2]
      exact ⟨Upd.refl _ _, by rw [e]⟩
    · simp (config := { dsimp := false, maxSteps := 10000000 }) (disch := omega) only [go_sem, reduceIte, Nat.reduceEqDiff, reduceCtorEq, Nat.reduceAdd, Nat.reduceMul, Int.reduceToNat, Int.reduceLE, Int.reduceLT, Int.reduceEq, Int.reduceNe, Nat.reduceLeDiff, Int.reducePow, Nat.reducePow, Nat.reduceLT, Nat.reduceSub, Nat.reduceMod, Nat.reduceDiv, slot_neg, slot_pos, T.ag_9, T.es_59, T.gf_36, T.gf_37, T.gf_38, T.ib_3, T.ib_9, T.ii_59, T.ii_9, T.ip_3, T.ip_9, T.s8_59, T.s8_9, T.sl_59, T.sl_9, T.st_59, T.st_9, T.un_59, T.un_9, hs1]
      exact ⟨Upd.refl _ _, by rw [e]⟩
  have hs1 : Go.Lib.hasSuffix l [46] = true := by cases h : Go.Lib.hasSuffix l [46] with | true => rfl | false => exact absurd (.inl h) hs
  have hs2 : l.length ≤ 254 := by have := fun h => hs (.inr h); omega
  have c2 : ((255 : Int) < (l.length : Int) + 1) = False := eq_false (by omega)
  obtain ⟨body, rfl⟩ : ∃ b, b ++ [46] = l := List.isSuffixOf_iff_suffix.1 hs1
  have htr : Go.Lib.trimSuffix (body ++ [46]) [46] = body := by unfold Go.Lib.trimSuffix; rw [if_pos hs1]; simp
  have hbl : body.length ≤ 253 := by simp at hs2; omega
  have e := nameOf_dot h1 hs2
  rw [htr]
  simp (config := { dsimp := false, maxSteps := 10000000 }) (disch := omega) only [go_sem, reduceIte, Nat.reduceEqDiff, reduceCtorEq, Nat.reduceAdd, Nat.reduceMul, Int.reduceToNat, Int.reduceLE, Int.reduceLT, Int.reduceEq, Int.reduceNe, Nat.reduceLeDiff, Int.reducePow, Nat.reducePow, Nat.reduceLT, Nat.reduceSub, Nat.reduceMod, Nat.reduceDiv, slot_neg, slot_pos, T.ag_9, T.es_59, T.gf_36, T.gf_37, T.gf_38, T.ib_3, T.ib_9, T.ii_59, T.ii_9, T.ip_3, T.ip_9, T.s8_59, T.s8_9, T.sl_59, T.sl_9, T.st_59, T.st_9, T.un_59, T.un_9, hs1, w1, c2]
  refine (Split_ph h body (by omega)).mono fun u H ⟨hu, hH⟩ => ?_
  subst hu
  have hrow : OwnRow tE H _ _ _ := hH ▸ dots_row h body
  have hU : Upd h H [] := hH ▸ Upd.alloc _ _ _
  clear hH
  obtain ⟨hdl, hdp⟩ := dots_cnt body
  generalize dots body = ps at *
  rcases hrow with ⟨e0, _⟩ | ⟨q, off, vs, e1, e2, e3, e4, e5⟩
  · cases e0
  cases e3; cases e1
  simp (config := { dsimp := false, maxSteps := 10000000 }) (disch := omega) only [go_sem, reduceIte, Nat.reduceEqDiff, reduceCtorEq, Nat.reduceAdd, Nat.reduceMul, Int.reduceToNat, Int.reduceLE, Int.reduceLT, Int.reduceEq, Int.reduceNe, Nat.reduceLeDiff, Int.reducePow, Nat.reducePow, Nat.reduceLT, Nat.reduceSub, Nat.reduceMod, Nat.reduceDiv, slot_neg, slot_pos, T.ag_9, T.es_59, T.gf_36, T.gf_37, T.gf_38, T.ib_3, T.ib_9, T.ii_59, T.ii_9, T.ip_3, T.ip_9, T.s8_59, T.s8_9, T.sl_59, T.sl_9, T.st_59, T.st_9, T.un_59, T.un_9]
  refine loop_intro [] hm (fun r H2 => ∃ i : Nat, i ≤ ps.length ∧ (ps.take i).all okPart = true ∧ r 6 = .slice (some ⟨h.next, 0, none⟩) ps.length 1 ∧ r 26 = .slice (some ⟨h.next, 0, none⟩) ps.length 1 ∧ r 27 = .int .i64 ps.length ∧ r 28 = .int .i64 i ∧ H2 = H) (fun r _ => match r 28 with | .int _ i => ps.length - i.toNat | _ => 0) ?_ ?_
  · exact ⟨0, by omega, rfl, by simp [upd], by simp [upd], by simp [upd], by simp [upd], rfl⟩
  · rintro r H2 ⟨i, hi, hall, q6, q26, q27, q28, rfl⟩
    by_cases hil : i < ps.length
    · have c1 : ((i : Int) < (ps.length : Int)) = True := eq_true (by omega)
      have wi : IntKind.i64.wrap ((i : Int) + 1) = ((i + 1 : Nat) : Int) := by rw [i64wrap] <;> omega
      have hx : ps[i]? = some ps[i] := List.getElem?_eq_getElem hil
      have hpl := hdp _ (List.getElem_mem hil)
      have hcell := e5.cell hx (j := 0) Nat.zero_lt_one
      rw [show tE.k = 1 from rfl, Nat.mul_one, Nat.add_zero, Nat.zero_add] at hcell
      have htk : (ps.take (i + 1)).all okPart = ((ps.take i).all okPart && okPart ps[i]) := by rw [List.take_succ_eq_append_getElem hil]; simp only [List.all_append, List.all_cons, List.all_nil, Bool.and_true]
      have hno : okPart ps[i] = false → nameOf (body ++ [46]) = none := fun ho => by
        rw [e, if_neg]
        intro hc
        have := List.all_eq_true.1 hc _ (List.getElem_mem hil)
        rw [ho] at this; cases this
      generalize ps[i] = p at *
      have hcell' : vs[i]? = some (.string (str p)) := hcell
      by_cases hp0 : p = []
      · simp (config := { dsimp := false, maxSteps := 10000000 }) (disch := omega) only [go_sem, reduceIte, Nat.reduceEqDiff, reduceCtorEq, Nat.reduceAdd, Nat.reduceMul, Int.reduceToNat, Int.reduceLE, Int.reduceLT, Int.reduceEq, Int.reduceNe, Nat.reduceLeDiff, Int.reducePow, Nat.reducePow, Nat.reduceLT, Nat.reduceSub, Nat.reduceMod, Nat.reduceDiv, slot_neg, slot_pos, T.ag_9, T.es_59, T.gf_36, T.gf_37, T.gf_38, T.ib_3, T.ib_9, T.ii_59, T.ii_9, T.ip_3, T.ip_9, T.s8_59, T.s8_9, T.sl_59, T.sl_9, T.st_59, T.st_9, T.un_59, T.un_9, q6, q26, q27, q28, c1, e4, hcell', mk_str, hp0]
        exact ⟨hU, by rw [hno (by simp [okPart, hp0])]⟩
      have d0 := eq_false hp0
      by_cases hp1 : 63 < p.length
      · have d1 : ((63 : Int) < (p.length : Int)) = True := eq_true (by omega)
        simp (config := { dsimp := false, maxSteps := 10000000 }) (disch := omega) only [go_sem, reduceIte, Nat.reduceEqDiff, reduceCtorEq, Nat.reduceAdd, Nat.reduceMul, Int.reduceToNat, Int.reduceLE, Int.reduceLT, Int.reduceEq, Int.reduceNe, Nat.reduceLeDiff, Int.reducePow, Nat.reducePow, Nat.reduceLT, Nat.reduceSub, Nat.reduceMod, Nat.reduceDiv, slot_neg, slot_pos, T.ag_9, T.es_59, T.gf_36, T.gf_37, T.gf_38, T.ib_3, T.ib_9, T.ii_59, T.ii_9, T.ip_3, T.ip_9, T.s8_59, T.s8_9, T.sl_59, T.sl_9, T.st_59, T.st_9, T.un_59, T.un_9, q6, q26, q27, q28, c1, e4, hcell', mk_str, d0, d1]
        exact ⟨hU, by rw [hno (by simp [okPart]; omega)]⟩
      have d1 : ((63 : Int) < (p.length : Int)) = False := eq_false (by omega)
      simp (config := { dsimp := false, maxSteps := 10000000 }) (disch := omega) only [go_sem, reduceIte, Nat.reduceEqDiff, reduceCtorEq, Nat.reduceAdd, Nat.reduceMul, Int.reduceToNat, Int.reduceLE, Int.reduceLT, Int.reduceEq, Int.reduceNe, Nat.reduceLeDiff, Int.reducePow, Nat.reducePow, Nat.reduceLT, Nat.reduceSub, Nat.reduceMod, Nat.reduceDiv, slot_neg, slot_pos, T.ag_9, T.es_59, T.gf_36, T.gf_37, T.gf_38, T.ib_3, T.ib_9, T.ii_59, T.ii_9, T.ip_3, T.ip_9, T.s8_59, T.s8_9, T.sl_59, T.sl_9, T.st_59, T.st_9, T.un_59, T.un_9, q6, q26, q27, q28, c1, e4, hcell', mk_str, d0, d1]
      refine CallsH.pure _ rfl ((Trim_ph _ p (by omega)).mono fun _ _ h => h.1) ?_
      by_cases hp2 : p.all letB = true
      · have d2 : (Go.Lib.trimS p letters = []) = True := eq_true ((trim_nil p).2 hp2)
        simp (config := { dsimp := false, maxSteps := 10000000 }) (disch := omega) only [go_sem, reduceIte, Nat.reduceEqDiff, reduceCtorEq, Nat.reduceAdd, Nat.reduceMul, Int.reduceToNat, Int.reduceLE, Int.reduceLT, Int.reduceEq, Int.reduceNe, Nat.reduceLeDiff, Int.reducePow, Nat.reducePow, Nat.reduceLT, Nat.reduceSub, Nat.reduceMod, Nat.reduceDiv, slot_neg, slot_pos, T.ag_9, T.es_59, T.gf_36, T.gf_37, T.gf_38, T.ib_3, T.ib_9, T.ii_59, T.ii_9, T.ip_3, T.ip_9, T.s8_59, T.s8_9, T.sl_59, T.sl_9, T.st_59, T.st_9, T.un_59, T.un_9, q6, q26, q27, q28, d2, mk_str]
        rw [wi]
        exact ⟨⟨i + 1, hil, by rw [htk, hall]; simp [okPart, hp0, hp2]; omega, rfl⟩, by omega⟩
      · have d2 : (Go.Lib.trimS p letters = []) = False := eq_false fun h => hp2 ((trim_nil p).1 h)
        simp (config := { dsimp := false, maxSteps := 10000000 }) (disch := omega) only [go_sem, reduceIte, Nat.reduceEqDiff, reduceCtorEq, Nat.reduceAdd, Nat.reduceMul, Int.reduceToNat, Int.reduceLE, Int.reduceLT, Int.reduceEq, Int.reduceNe, Nat.reduceLeDiff, Int.reducePow, Nat.reducePow, Nat.reduceLT, Nat.reduceSub, Nat.reduceMod, Nat.reduceDiv, slot_neg, slot_pos, T.ag_9, T.es_59, T.gf_36, T.gf_37, T.gf_38, T.ib_3, T.ib_9, T.ii_59, T.ii_9, T.ip_3, T.ip_9, T.s8_59, T.s8_9, T.sl_59, T.sl_9, T.st_59, T.st_9, T.un_59, T.un_9, q6, q26, q27, q28, d2, mk_str]
        exact ⟨hU, by rw [hno (by simp [okPart, hp2])]⟩
    · obtain rfl : i = ps.length := by omega
      have c1 : ((ps.length : Int) < (ps.length : Int)) = False := eq_false (by omega)
      rw [List.take_length] at hall
      simp (config := { dsimp := false, maxSteps := 10000000 }) (disch := omega) only [go_sem, reduceIte, Nat.reduceEqDiff, reduceCtorEq, Nat.reduceAdd, Nat.reduceMul, Int.reduceToNat, Int.reduceLE, Int.reduceLT, Int.reduceEq, Int.reduceNe, Nat.reduceLeDiff, Int.reducePow, Nat.reducePow, Nat.reduceLT, Nat.reduceSub, Nat.reduceMod, Nat.reduceDiv, slot_neg, slot_pos, T.ag_9, T.es_59, T.gf_36, T.gf_37, T.gf_38, T.ib_3, T.ib_9, T.ii_59, T.ii_9, T.ip_3, T.ip_9, T.s8_59, T.s8_9, T.sl_59, T.sl_9, T.st_59, T.st_9, T.un_59, T.un_9, q6, q26, q27, q28, c1]
      exact ⟨hU, by rw [e, if_pos hall]; exact ⟨_, [h.next], rfl, .inr ⟨_, _, _, rfl, e2, rfl, e4, e5⟩, by simp⟩⟩
end Ph
