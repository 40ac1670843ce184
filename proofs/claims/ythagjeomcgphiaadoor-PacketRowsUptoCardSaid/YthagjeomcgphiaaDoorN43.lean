import Derived.Test.YthagjeomcgphiaaDoorN42
set_option maxRecDepth 100000
set_option linter.unusedSimpArgs false
namespace Ph
open Go Go.Proofs
attribute [local irreducible] Value.cells
attribute [local go_sem ↓] s_move s_assign s_pick s_nil s_bin s_un s_fa s_field s_ext s_ia s_ix s_slice s_conv s_build s_bs s_mf s_alloc s_box s_load s_store s_len s_min s_max s_app s_call q_call q_move q_assign q_pick q_nil q_bin q_un q_fa q_field q_ext q_ia q_ix q_slice q_conv q_build q_mf q_load q_len q_min q_max l_nil l_move l_assign l_pick l_nilc l_bin l_un l_fa l_field l_ext l_ia l_ix l_slice l_conv l_build l_mf l_load l_len l_min l_max l_call put_eq putN_eq o_nil o_plain o_gate v_nil v_plain v_gate vc_skip vc_region vc_seq vc_cond vc_block vc_loop vc_exit vc_ret blk_normal blk_ret blk_exit on_normal on_ret on_exit vc_drawn draw_q s_mk l_bs l_mk l_alloc l_box l_store l_app pl_done pl_take pl_alt pl_stop one_plain one_gate
attribute [local go_sem] onAgg_a onTuple_t onFunc_f c_int c_nil c_sl c_str sl_sl sl_nil sl_str ix_str ix_agg n_nil n_sl n_str app_eq k_nil k_sl len_sl len_str upd_some upd_none ev_tmp ev_const ev_func rd_some gdst_eq otmp_t otmp_c get_put get_alloc next_put next_alloc get_app next_app init_a resV1 resV2 onPtr_ptr onBool_b onInt_i onSlice_s onSome_s onCells_c lett_eq gate_tt gate_tf gate_ff gate_ft gate_dt gate_df also_eq bin un minmax io_none io_some bo_none bo_some partOf List.getElem?_cons_zero List.getElem?_cons_succ List.getElem?_toArray Option.map_some Option.map_none Option.bind_some ne_eq not_true_eq_false not_false_eq_true false_implies true_implies and_true true_and and_self Bool.false_eq_true Nat.zero_add Nat.add_zero List.size_toArray List.length_cons List.length_nil List.map_toArray List.map_cons List.map_nil Array.getD_eq_getD_getElem? Option.getD_some Bool.not_true Bool.not_false Bool.not_eq_true Option.isNone_some Option.isNone_none List.append_toArray List.append_nil List.nil_append List.cons_append decide_true decide_false in_nil in_cons Bool.and_false Bool.and_true Bool.or_false Bool.true_or Bool.false_or get_mask next_mask get_unmask next_unmask ac_move ac_assign ac_pick ac_nil ac_bin ac_un ac_fa ac_field ac_ext ac_ia ac_ix ac_slice ac_build ac_mf ac_call ac_load ac_conv accP_p accS_s accS_n accS_i accS_t fixed_ro fixed_lock fixed_own get_ro next_ro lock_live' lock_cells List.mem_cons List.not_mem_nil or_false false_or or_true true_or and_false false_and IntKind.bits Int.natCast_zero Int.natCast_one size_str data_str list_str mk_str ext_str app_str bytes_str w_byte w_byteu Int.toNat_natCast Int.toNat_zero Int.toNat_one Nat.sub_zero ge_iff_le gt_iff_lt Nat.le_refl Int.le_refl List.drop_zero Int.ofNat_eq_natCast Int.natCast_nonneg Int.sub_zero oc_int oc_bool oc_str oc_ptr oc_sl oc_map oc_func List.set_cons_zero List.set_cons_succ Nat.mul_one List.all_cons List.all_nil Bool.and_self res_nil res_tmp res_cell tup_one tup_two tup_nil fill_nil repl_zero cells_agg List.append_eq List.toList_toArray Nat.zero_mul Nat.one_mul repl_one repl_two onSome_build fill_cons onSome_lit splice_eq cells_int cells_bool cells_str cells_ptr cells_sl cells_map cells_func loadK_n loadK_s load_k storeK_n storeK_s store_k all_arr List.take_zero List.take_succ_cons List.drop_succ_cons List.take_nil List.drop_nil lk_own lk_ro lk_lock lk_lk fixed_lk gate_nt gate_nf gate3_b gate3_u undef Bool.true_and Bool.false_and nx_l nx_r nx_lt
theorem within_ph (n a b : Int) (h : Heap) : @CallsH Tryd.prog 41 #[.int .i64 n, .int .i64 a, .int .i64 b] h ⟨fun v _ => v = .bool (decide (a ≤ n) && decide (n ≤ b))⟩ := by
  (refine calls_of_vc [] hm Tryd.func41 rfl (ts := [6]) rfl (by kernel_rfl) (by simp) ?_; simp (config := { dsimp := false }) only [go_sem, reduceIte, Nat.reduceEqDiff, reduceCtorEq, Nat.reduceAdd, Nat.reduceMul, Int.reduceToNat, Int.reduceLE, Int.reduceLT, Int.reduceEq, Int.reduceNe, Nat.reduceLeDiff, Int.reducePow, Nat.reducePow, Nat.reduceLT, Nat.reduceSub, Nat.reduceMod, Nat.reduceDiv, T.ib_3, T.ip_3, init_a])
  exact ⟨fun h => by simp [h], fun h => by simp [h]⟩
/-- the least length is told; then what is named, and what is behind it -/
def nameS (l : List UInt8) : List UInt8 × List UInt8 × Int :=
  match l with
  | [] => ([], [], 3)
  | b :: t => if b.toNat > 20 then ([], [], 2) else if t.length < b.toNat then ([], [], 3) else (t.take b.toNat, t.drop b.toNat, 0)
theorem name_ph (l : List UInt8) (hl : l.length < 9223372036854775807) (h : Heap) : @CallsH Tryd.prog 43 #[.string (str l)] h ⟨fun v _ => v = .tuple #[.string (str (nameS l).1), .string (str (nameS l).2.1), .int .i64 (nameS l).2.2]⟩ := by
  (refine calls_of_vc [] hm Tryd.func43 rfl (ts := [2, 3, 4]) rfl (by kernel_rfl) (by simp) ?_; simp (config := { dsimp := false }) only [go_sem, reduceIte, Nat.reduceEqDiff, reduceCtorEq, Nat.reduceAdd, Nat.reduceMul, Int.reduceToNat, Int.reduceLE, Int.reduceLT, Int.reduceEq, Int.reduceNe, Nat.reduceLeDiff, Int.reducePow, Nat.reducePow, Nat.reduceLT, Nat.reduceSub, Nat.reduceMod, Nat.reduceDiv, T.es_9, T.ib_3, T.ib_9, T.ii_3, T.ii_5, T.ii_9, T.ip_3, T.ip_9, T.s8_3, T.s8_5, T.s8_9, T.sl_3, T.sl_5, T.sl_9, T.st_3, T.st_5, T.st_9, T.un_3, T.un_5, T.un_9, init_a])
  cases l with
  | nil => simp [nameS]
  | cons b t =>
    have hb := b.toNat_lt
    have e1 : IntKind.i64.wrap (((b :: t).length : Int) - 1) = t.length := by rw [i64wrap] <;> simp at hl ⊢ <;> omega
    have e2 : IntKind.i64.wrap (1 + (b.toNat : Int)) = 1 + b.toNat := by rw [i64wrap] <;> omega
    simp only [e1, e2, List.getD_cons_zero, nameS]
    refine ⟨fun h => by simp at h, fun _ => ⟨by simp, fun h => ?_, fun h => ⟨fun h2 => ?_, fun h2 => ⟨⟨by omega, by simp; omega⟩, ⟨by omega, by simp; omega⟩, ?_⟩⟩⟩⟩
    · rw [if_pos (by omega)]
    · rw [if_neg (by omega), if_pos (by omega)]
    · rw [if_neg (by omega), if_neg (by omega)]
      have e3 : (1 + (b.toNat : Int)).toNat = b.toNat + 1 := by omega
      simp [e3]
      rw [List.take_of_length_le (by simp)]
end Ph
