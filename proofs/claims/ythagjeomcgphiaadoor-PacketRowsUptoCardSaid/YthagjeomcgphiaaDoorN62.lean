import Derived.Test.YthagjeomcgphiaaDoorN60
set_option maxRecDepth 100000
set_option linter.unusedSimpArgs false
set_option linter.unusedVariables false
namespace Ph
open Go Go.Proofs
attribute [local irreducible] Value.cells
attribute [local go_sem ↓] s_move s_assign s_pick s_nil s_bin s_un s_fa s_field s_ext s_ia s_ix s_slice s_conv s_build s_bs s_mf s_alloc s_box s_load s_store s_len s_min s_max s_app s_call q_call q_move q_assign q_pick q_nil q_bin q_un q_fa q_field q_ext q_ia q_ix q_slice q_conv q_build q_mf q_load q_len q_min q_max l_nil l_move l_assign l_pick l_nilc l_bin l_un l_fa l_field l_ext l_ia l_ix l_slice l_conv l_build l_mf l_load l_len l_min l_max l_call put_eq putN_eq o_nil o_plain o_gate v_nil v_plain v_gate vc_skip vc_region vc_seq vc_cond vc_block vc_loop vc_exit vc_ret blk_normal blk_ret blk_exit on_normal on_ret on_exit vc_drawn draw_q s_mk l_bs l_mk l_alloc l_box l_store l_app pl_done pl_take pl_alt pl_stop one_plain one_gate
attribute [local go_sem] onAgg_a onTuple_t onFunc_f c_int c_nil c_sl c_str sl_sl sl_nil sl_str ix_str ix_agg n_nil n_sl n_str app_eq k_nil k_sl len_sl len_str upd_some upd_none ev_tmp ev_const ev_func rd_some gdst_eq otmp_t otmp_c get_put get_alloc next_put next_alloc get_app next_app init_a resV1 resV2 onPtr_ptr onBool_b onInt_i onSlice_s onSome_s onCells_c lett_eq gate_tt gate_tf gate_ff gate_ft gate_dt gate_df also_eq bin un minmax io_none io_some bo_none bo_some partOf List.getElem?_cons_zero List.getElem?_cons_succ List.getElem?_toArray Option.map_some Option.map_none Option.bind_some ne_eq not_true_eq_false not_false_eq_true false_implies true_implies and_true true_and and_self Bool.false_eq_true Nat.zero_add Nat.add_zero List.size_toArray List.length_cons List.length_nil List.map_toArray List.map_cons List.map_nil Array.getD_eq_getD_getElem? Option.getD_some Bool.not_true Bool.not_false Bool.not_eq_true Option.isNone_some Option.isNone_none List.append_toArray List.append_nil List.nil_append List.cons_append decide_true decide_false in_nil in_cons Bool.and_false Bool.and_true Bool.or_false Bool.true_or Bool.false_or get_mask next_mask get_unmask next_unmask ac_move ac_assign ac_pick ac_nil ac_bin ac_un ac_fa ac_field ac_ext ac_ia ac_ix ac_slice ac_build ac_mf ac_call ac_load ac_conv accP_p accS_s accS_n accS_i accS_t fixed_ro fixed_lock fixed_own get_ro next_ro lock_live' lock_cells List.mem_cons List.not_mem_nil or_false false_or or_true true_or and_false false_and IntKind.bits Int.natCast_zero Int.natCast_one size_str data_str list_str mk_str ext_str app_str bytes_str w_byte w_byteu Int.toNat_natCast Int.toNat_zero Int.toNat_one Nat.sub_zero ge_iff_le gt_iff_lt Nat.le_refl Int.le_refl List.drop_zero Int.ofNat_eq_natCast Int.natCast_nonneg Int.sub_zero oc_int oc_bool oc_str oc_ptr oc_sl oc_map oc_func List.set_cons_zero List.set_cons_succ Nat.mul_one List.all_cons List.all_nil Bool.and_self res_nil res_tmp res_cell tup_one tup_two tup_nil fill_nil repl_zero cells_agg List.append_eq List.toList_toArray Nat.zero_mul Nat.one_mul repl_one repl_two onSome_build fill_cons onSome_lit splice_eq cells_int cells_bool cells_str cells_ptr cells_sl cells_map cells_func loadK_n loadK_s load_k storeK_n storeK_s store_k all_arr List.take_zero List.take_succ_cons List.drop_succ_cons List.take_nil List.drop_nil lk_own lk_ro lk_lock lk_lk fixed_lk gate_nt gate_nf gate3_b gate3_u undef Bool.true_and Bool.false_and nx_l nx_r nx_lt
/-- a text of n bytes, of no more than so many -/
def textS (l : List UInt8) (e : Int) (n most : Nat) : TakeR :=
  if e = 0 then (if most < n then ⟨[], l, 2⟩ else takeS l 0 n) else ⟨[], l, e⟩
theorem text_ph (h : Heap) {s p o vs q l e} (hI : In h s p o vs q l e) (n m : Nat) (hn : n < 9223372036854775807) :
    @CallsH Tryd.prog 62 #[.pointer (some ⟨s, 0, none⟩), .int .i64 n, .int .i64 m] h ⟨fun v h' => v = .string (str (textS l e n m).bytes) ∧ ∃ o', In h' s p o' vs q (textS l e n m).rest (textS l e n m).e ∧ Keep h h' s⟩ := by
  have hst := hI.st
  (refine calls_of_vc [] hm Tryd.func62 rfl (ts := [6]) rfl (by kernel_rfl) (by simp) ?_; simp (config := { dsimp := false }) only [go_sem, reduceIte, Nat.reduceEqDiff, reduceCtorEq, Nat.reduceAdd, Nat.reduceMul, Int.reduceToNat, Int.reduceLE, Int.reduceLT, Int.reduceEq, Int.reduceNe, Nat.reduceLeDiff, Int.reducePow, Nat.reducePow, Nat.reduceLT, Nat.reduceSub, Nat.reduceMod, Nat.reduceDiv, T.ag_25, T.fo_108_1, T.gf_64, T.ib_25, T.ib_3, T.ii_28, T.ii_9, T.ip_25, T.ip_3, T.s8_28, T.s8_9, T.sl_28, T.sl_9, T.st_28, T.st_9, T.un_28, T.un_9, init_a, hst])
  refine ⟨fun he => ⟨fun hlt => ?_, fun hge => ⟨fun hne => absurd he hne, fun _ => ?_⟩⟩, fun hne => ⟨fun _ => ?_, fun he => absurd hne he⟩⟩
  · subst he
    rw [textS, if_pos rfl, if_pos (by omega)]
    exact ⟨rfl, o, hI.err 2, Keep.put⟩
  · subst he
    refine (take_ph h hI n hn).mono fun v h' ⟨o', h1, h2, h3⟩ => ?_
    have e1 : textS l 0 n m = takeS l 0 n := by rw [textS, if_pos rfl, if_neg (by omega)]
    rw [e1]
    rcases h3 with ⟨rfl, hb⟩ | ⟨p', o2, vs', q', rfl, hp, hb, hlen⟩
    · simp (config := { dsimp := false }) only [go_sem, reduceIte, Nat.reduceEqDiff, reduceCtorEq, Nat.reduceAdd, Nat.reduceMul, Int.reduceToNat, Int.reduceLE, Int.reduceLT, Int.reduceEq, Int.reduceNe, Nat.reduceLeDiff, Int.reducePow, Nat.reducePow, Nat.reduceLT, Nat.reduceSub, Nat.reduceMod, Nat.reduceDiv, T.ag_25, T.fo_108_1, T.gf_64, T.ib_25, T.ib_3, T.ii_28, T.ii_9, T.ip_25, T.ip_3, T.s8_28, T.s8_9, T.sl_28, T.sl_9, T.st_28, T.st_9, T.un_28, T.un_9]
      exact ⟨by rw [hb], o', h1, h2⟩
    · simp (config := { dsimp := false }) only [go_sem, reduceIte, Nat.reduceEqDiff, reduceCtorEq, Nat.reduceAdd, Nat.reduceMul, Int.reduceToNat, Int.reduceLE, Int.reduceLT, Int.reduceEq, Int.reduceNe, Nat.reduceLeDiff, Int.reducePow, Nat.reducePow, Nat.reduceLT, Nat.reduceSub, Nat.reduceMod, Nat.reduceDiv, T.ag_25, T.fo_108_1, T.gf_64, T.ib_25, T.ib_3, T.ii_28, T.ii_9, T.ip_25, T.ip_3, T.s8_28, T.s8_9, T.sl_28, T.sl_9, T.st_28, T.st_9, T.un_28, T.un_9, hp, hb, bc_val]
      exact ⟨hlen, o', h1, h2⟩
  · rw [textS, if_neg hne]
    exact ⟨rfl, o, hI, Keep.refl⟩
def name2S (l : List UInt8) (e : Int) : TakeR := textS (takeS l e 1).rest (takeS l e 1).e ((takeS l e 1).bytes.getD 0 0).toNat 20
theorem name2_ph (h : Heap) {s p o vs q l e} (hI : In h s p o vs q l e) :
    @CallsH Tryd.prog 61 #[.pointer (some ⟨s, 0, none⟩)] h ⟨fun v h' => v = .string (str (name2S l e).bytes) ∧ ∃ o', In h' s p o' vs q (name2S l e).rest (name2S l e).e ∧ Keep h h' s⟩ := by
  (refine calls_of_vc [] hm Tryd.func61 rfl (ts := [2]) rfl (by kernel_rfl) (by simp) ?_; simp (config := { dsimp := false }) only [go_sem, reduceIte, Nat.reduceEqDiff, reduceCtorEq, Nat.reduceAdd, Nat.reduceMul, Int.reduceToNat, Int.reduceLE, Int.reduceLT, Int.reduceEq, Int.reduceNe, Nat.reduceLeDiff, Int.reducePow, Nat.reducePow, Nat.reduceLT, Nat.reduceSub, Nat.reduceMod, Nat.reduceDiv, T.ag_5, T.es_28, T.gf_62, T.gf_64, T.ii_3, T.ii_5, T.s8_3, T.s8_5, T.sl_3, T.sl_5, T.st_3, T.st_5, T.un_3, T.un_5, init_a])
  refine (take_ph h hI 1 (by omega)).mono fun v h' ⟨o', h1, h2, h3⟩ => ?_
  have hl := take_len l e 1 (by omega)
  rcases h3 with ⟨_, h0⟩ | ⟨p', o2, vs', q', rfl, hp, hb, hlen⟩
  · rw [h0] at hl; cases hl
  · have c0 := SlB.get hb (n := 0) (by omega)
    simp only [Nat.add_zero] at c0
    simp (config := { dsimp := false }) only [go_sem, reduceIte, Nat.reduceEqDiff, reduceCtorEq, Nat.reduceAdd, Nat.reduceMul, Int.reduceToNat, Int.reduceLE, Int.reduceLT, Int.reduceEq, Int.reduceNe, Nat.reduceLeDiff, Int.reducePow, Nat.reducePow, Nat.reduceLT, Nat.reduceSub, Nat.reduceMod, Nat.reduceDiv, T.ag_5, T.es_28, T.gf_62, T.gf_64, T.ii_3, T.ii_5, T.s8_3, T.s8_5, T.sl_3, T.sl_5, T.st_3, T.st_5, T.un_3, T.un_5, hp, c0, hl]
    have hb := ((takeS l e 1).bytes.getD 0 0).toNat_lt
    refine (text_ph h' h1 _ 20 (by omega)).mono fun v h'' ⟨g1, o3, g2, g3⟩ => ?_
    simp (config := { dsimp := false }) only [go_sem, reduceIte, Nat.reduceEqDiff, reduceCtorEq, Nat.reduceAdd, Nat.reduceMul, Int.reduceToNat, Int.reduceLE, Int.reduceLT, Int.reduceEq, Int.reduceNe, Nat.reduceLeDiff, Int.reducePow, Nat.reducePow, Nat.reduceLT, Nat.reduceSub, Nat.reduceMod, Nat.reduceDiv, T.ag_5, T.es_28, T.gf_62, T.gf_64, T.ii_3, T.ii_5, T.s8_3, T.s8_5, T.sl_3, T.sl_5, T.st_3, T.st_5, T.un_3, T.un_5]
    exact ⟨g1, o3, g2, h2.trans g3⟩
def countS (l : List UInt8) (e : Int) (m : Nat) : Nat × List UInt8 × Int :=
  if e = 0 then (if (vget l).2.2 = 0 then (if m < (vget l).1 then (0, l, 2) else ((vget l).1, l.drop (vget l).2.1, 0)) else (0, l, (vget l).2.2)) else (0, l, e)
theorem vget_le (l : List UInt8) : (vget l).2.1 ≤ l.length ∧ (vget l).1 < 4611686018427387904 := by
  unfold vget
  split
  · exact ⟨Nat.zero_le _, by simp⟩
  · have h := vsize_le l
    have h2 := vnum_lt l (vsize l) h.2
    have h3 : 64 * 256 ^ (vsize l - 1) ≤ 64 * 256 ^ 7 := Nat.mul_le_mul_left _ (Nat.pow_le_pow_right (by omega) (by omega))
    exact ⟨by simp only []; omega, by simp only []; omega⟩
theorem count_ph (h : Heap) {s p o vs q l e} (hI : In h s p o vs q l e) (m : Nat) (hn : m < 9223372036854775807) :
    @CallsH Tryd.prog 63 #[.pointer (some ⟨s, 0, none⟩), .int .i64 m] h ⟨fun v h' => v = .int .i64 (countS l e m).1 ∧ ∃ o', In h' s p o' vs q (countS l e m).2.1 (countS l e m).2.2 ∧ Keep h h' s⟩ := by
  have hst := hI.st
  (refine calls_of_vc [] hm Tryd.func63 rfl (ts := [4]) rfl (by kernel_rfl) (by simp) ?_; simp (config := { dsimp := false }) only [go_sem, reduceIte, Nat.reduceEqDiff, reduceCtorEq, Nat.reduceAdd, Nat.reduceMul, Int.reduceToNat, Int.reduceLE, Int.reduceLT, Int.reduceEq, Int.reduceNe, Nat.reduceLeDiff, Int.reducePow, Nat.reducePow, Nat.reduceLT, Nat.reduceSub, Nat.reduceMod, Nat.reduceDiv, T.ag_25, T.ag_28, T.es_28, T.fo_108_0, T.fo_108_1, T.gf_78, T.ib_25, T.ib_35, T.ii_28, T.ii_3, T.ii_35, T.ip_25, T.ip_35, T.s8_28, T.s8_3, T.s8_35, T.sl_28, T.sl_3, T.sl_35, T.st_28, T.st_3, T.st_35, T.un_28, T.un_3, T.un_35, init_a, hst])
  refine ⟨fun hne => ?_, fun he => ?_⟩
  · rw [countS, if_neg hne]; exact ⟨rfl, o, hI, Keep.refl⟩
  · have he : e = 0 := Classical.not_not.1 he
    subst he
    have hv := vget_le l
    refine CallsH.pure _ rfl (VGet_ph l hI.ll h.ro _ (SlB.ro (.inr ⟨p, o, vs, q, rfl, hI.dt, hI.row, hI.len⟩))) ?_
    have u1 : IntKind.u64.wrap (m : Int) = m := by rw [u64wrap] <;> omega
    have u2 : IntKind.i64.wrap ((vget l).1 : Int) = ((vget l).1 : Nat) := by rw [i64wrap] <;> omega
    simp (config := { dsimp := false }) only [go_sem, reduceIte, Nat.reduceEqDiff, reduceCtorEq, Nat.reduceAdd, Nat.reduceMul, Int.reduceToNat, Int.reduceLE, Int.reduceLT, Int.reduceEq, Int.reduceNe, Nat.reduceLeDiff, Int.reducePow, Nat.reducePow, Nat.reduceLT, Nat.reduceSub, Nat.reduceMod, Nat.reduceDiv, T.ag_25, T.ag_28, T.es_28, T.fo_108_0, T.fo_108_1, T.gf_78, T.ib_25, T.ib_35, T.ii_28, T.ii_3, T.ii_35, T.ip_25, T.ip_35, T.s8_28, T.s8_3, T.s8_35, T.sl_28, T.sl_3, T.sl_35, T.st_28, T.st_3, T.st_35, T.un_28, T.un_3, T.un_35, hst, u1, u2]
    refine ⟨fun hne => ?_, fun he => ⟨fun hlt => ?_, fun hge => ⟨by omega, ?_⟩⟩⟩
    · rw [countS, if_pos rfl, if_neg hne]
      exact ⟨rfl, o, hI.err _, Keep.put⟩
    · rw [countS, if_pos rfl, if_pos (Classical.not_not.1 he), if_pos (by omega)]
      exact ⟨rfl, o, hI.err _, Keep.put⟩
    · rw [countS, if_pos rfl, if_pos (Classical.not_not.1 he), if_neg (by omega)]
      exact ⟨rfl, _, hI.taken hv.1, Keep.put⟩
end Ph
