import Derived.Test.YthagjeomcgphiaaDoorN44
set_option maxRecDepth 100000
set_option linter.unusedSimpArgs false
namespace Ph
open Go Go.Proofs
attribute [local irreducible] Value.cells
attribute [local go_sem ↓] s_move s_assign s_pick s_nil s_bin s_un s_fa s_field s_ext s_ia s_ix s_slice s_conv s_build s_bs s_mf s_alloc s_box s_load s_store s_len s_min s_max s_app s_call q_call q_move q_assign q_pick q_nil q_bin q_un q_fa q_field q_ext q_ia q_ix q_slice q_conv q_build q_mf q_load q_len q_min q_max l_nil l_move l_assign l_pick l_nilc l_bin l_un l_fa l_field l_ext l_ia l_ix l_slice l_conv l_build l_mf l_load l_len l_min l_max l_call put_eq putN_eq o_nil o_plain o_gate v_nil v_plain v_gate vc_skip vc_region vc_seq vc_cond vc_block vc_loop vc_exit vc_ret blk_normal blk_ret blk_exit on_normal on_ret on_exit vc_drawn draw_q s_mk l_bs l_mk l_alloc l_box l_store l_app pl_done pl_take pl_alt pl_stop one_plain one_gate
attribute [local go_sem] onAgg_a onTuple_t onFunc_f c_int c_nil c_sl c_str sl_sl sl_nil sl_str ix_str ix_agg n_nil n_sl n_str app_eq k_nil k_sl len_sl len_str upd_some upd_none ev_tmp ev_const ev_func rd_some gdst_eq otmp_t otmp_c get_put get_alloc next_put next_alloc get_app next_app init_a resV1 resV2 onPtr_ptr onBool_b onInt_i onSlice_s onSome_s onCells_c lett_eq gate_tt gate_tf gate_ff gate_ft gate_dt gate_df also_eq bin un minmax io_none io_some bo_none bo_some partOf List.getElem?_cons_zero List.getElem?_cons_succ List.getElem?_toArray Option.map_some Option.map_none Option.bind_some ne_eq not_true_eq_false not_false_eq_true false_implies true_implies and_true true_and and_self Bool.false_eq_true Nat.zero_add Nat.add_zero List.size_toArray List.length_cons List.length_nil List.map_toArray List.map_cons List.map_nil Array.getD_eq_getD_getElem? Option.getD_some Bool.not_true Bool.not_false Bool.not_eq_true Option.isNone_some Option.isNone_none List.append_toArray List.append_nil List.nil_append List.cons_append decide_true decide_false in_nil in_cons Bool.and_false Bool.and_true Bool.or_false Bool.true_or Bool.false_or get_mask next_mask get_unmask next_unmask ac_move ac_assign ac_pick ac_nil ac_bin ac_un ac_fa ac_field ac_ext ac_ia ac_ix ac_slice ac_build ac_mf ac_call ac_load ac_conv accP_p accS_s accS_n accS_i accS_t fixed_ro fixed_lock fixed_own get_ro next_ro lock_live' lock_cells List.mem_cons List.not_mem_nil or_false false_or or_true true_or and_false false_and IntKind.bits Int.natCast_zero Int.natCast_one size_str data_str list_str mk_str ext_str app_str bytes_str w_byte w_byteu Int.toNat_natCast Int.toNat_zero Int.toNat_one Nat.sub_zero ge_iff_le gt_iff_lt Nat.le_refl Int.le_refl List.drop_zero Int.ofNat_eq_natCast Int.natCast_nonneg Int.sub_zero oc_int oc_bool oc_str oc_ptr oc_sl oc_map oc_func List.set_cons_zero List.set_cons_succ Nat.mul_one List.all_cons List.all_nil Bool.and_self res_nil res_tmp res_cell tup_one tup_two tup_nil fill_nil repl_zero cells_agg List.append_eq List.toList_toArray Nat.zero_mul Nat.one_mul repl_one repl_two onSome_build fill_cons onSome_lit splice_eq cells_int cells_bool cells_str cells_ptr cells_sl cells_map cells_func loadK_n loadK_s load_k storeK_n storeK_s store_k all_arr List.take_zero List.take_succ_cons List.drop_succ_cons List.take_nil List.drop_nil lk_own lk_ro lk_lock lk_lk fixed_lk gate_nt gate_nf gate3_b gate3_u undef Bool.true_and Bool.false_and nx_l nx_r nx_lt
theorem shr6 {b : UInt8} : (b.toNat : Int).fdiv (2 ^ min 6 8) = ((b.toNat / 64 : Nat) : Int) := by
  rw [Int.fdiv_eq_ediv_of_nonneg _ (by decide)]; rfl
theorem and63 {b : UInt8} : IntKind.u8.wrap ((BitVec.ofInt 8 (b.toNat : Int) &&& BitVec.ofInt 8 63).toNat : Int) = ((b.toNat % 64 : Nat) : Int) := by
  have := b.toNat_lt
  have e : (BitVec.ofInt 8 (b.toNat : Int) &&& BitVec.ofInt 8 63).toNat = b.toNat % 64 := by
    rw [BitVec.toNat_and]
    have e1 : (BitVec.ofInt 8 (b.toNat : Int)).toNat = b.toNat := by simp
    have e2 : (BitVec.ofInt 8 63).toNat = 2 ^ 6 - 1 := by decide
    rw [e1, e2, Nat.and_two_pow_sub_one_eq_mod]
  rw [e, u8wrap] <;> omega
theorem shl1 {l : List UInt8} : IntKind.i64.wrap (1 * 2 ^ min ((l.getD 0 0).toNat / 64) 64) = (vsize l : Nat) := by
  have hb := (l.getD 0 0).toNat_lt
  have h := vsize_le l
  have e : min ((l.getD 0 0).toNat / 64) 64 = (l.getD 0 0).toNat / 64 := by omega
  rw [e]
  have e2 : (1 * 2 ^ ((l.getD 0 0).toNat / 64) : Int) = ((vsize l : Nat) : Int) := by simp [vsize]
  rw [e2, i64wrap] <;> omega
theorem or8 {n : Nat} {b : UInt8} (hn : n < 64 * 256 ^ 6) : IntKind.u64.wrap ((BitVec.ofInt 64 (IntKind.u64.wrap ((n : Int) * 2 ^ min 8 64)) ||| BitVec.ofInt 64 (b.toNat : Int)).toNat : Int) = ((n * 256 + b.toNat : Nat) : Int) := by
  have hb := b.toNat_lt
  have e0 : (2 ^ min 8 64 : Int) = 256 := by decide
  rw [e0, u64wrap (x := (n : Int) * 256) (by omega) (by omega)]
  have e : (BitVec.ofInt 64 ((n : Int) * 256) ||| BitVec.ofInt 64 (b.toNat : Int)).toNat = n * 256 + b.toNat := by
    rw [BitVec.toNat_or]
    have e1 : (BitVec.ofInt 64 ((n : Int) * 256)).toNat = n * 256 := by
      have : ((n : Int) * 256) = ((n * 256 : Nat) : Int) := by omega
      rw [this, BitVec.ofInt_natCast, BitVec.toNat_ofNat, Nat.mod_eq_of_lt (by omega)]
    have e2 : (BitVec.ofInt 64 (b.toNat : Int)).toNat = b.toNat := by
      rw [BitVec.ofInt_natCast, BitVec.toNat_ofNat, Nat.mod_eq_of_lt (by omega)]
    have e3 : n * 256 = n <<< 8 := by rw [Nat.shiftLeft_eq]
    rw [e1, e2, e3, ← Nat.shiftLeft_add_eq_or_of_lt (by omega)]
  rw [e, u64wrap] <;> omega
theorem VGet_ph (l : List UInt8) (hl : l.length < 9223372036854775807) (h : Heap) (v : Value) (hv : SlB h v l) : @CallsH Tryd.prog 78 #[v] h ⟨fun v _ => v = .tuple #[.int .u64 (vget l).1, .int .i64 (vget l).2.1, .int .i64 (vget l).2.2]⟩ := by
  rcases hv with ⟨rfl, rfl⟩ | ⟨p, o, vs, q, rfl, hp, hb, hlen⟩
  · (refine calls_of_vc [] hm Tryd.func78 rfl (ts := [2, 3, 4]) rfl (by kernel_rfl) (by simp) ?_; simp (config := { dsimp := false }) only [go_sem, reduceIte, Nat.reduceEqDiff, reduceCtorEq, Nat.reduceAdd, Nat.reduceMul, Int.reduceToNat, Int.reduceLE, Int.reduceLT, Int.reduceEq, Int.reduceNe, Nat.reduceLeDiff, Int.reducePow, Nat.reducePow, Nat.reduceLT, Nat.reduceSub, Nat.reduceMod, Nat.reduceDiv, T.ag_5, T.es_28, T.ib_3, T.ib_35, T.ib_5, T.ii_28, T.ii_35, T.ii_5, T.ip_3, T.ip_35, T.ip_5, T.s8_28, T.s8_35, T.s8_5, T.sl_28, T.sl_35, T.sl_5, T.st_28, T.st_35, T.st_5, T.un_28, T.un_35, T.un_5, init_a])
    rfl
  · rcases Nat.eq_zero_or_pos l.length with h0 | h0
    · have : l = [] := by simpa using h0
      subst this
      (refine calls_of_vc [] hm Tryd.func78 rfl (ts := [2, 3, 4]) rfl (by kernel_rfl) (by simp) ?_; simp (config := { dsimp := false }) only [go_sem, reduceIte, Nat.reduceEqDiff, reduceCtorEq, Nat.reduceAdd, Nat.reduceMul, Int.reduceToNat, Int.reduceLE, Int.reduceLT, Int.reduceEq, Int.reduceNe, Nat.reduceLeDiff, Int.reducePow, Nat.reducePow, Nat.reduceLT, Nat.reduceSub, Nat.reduceMod, Nat.reduceDiv, T.ag_5, T.es_28, T.ib_3, T.ib_35, T.ib_5, T.ii_28, T.ii_35, T.ii_5, T.ip_3, T.ip_35, T.ip_5, T.s8_28, T.s8_35, T.s8_5, T.sl_28, T.sl_35, T.sl_5, T.st_28, T.st_35, T.st_5, T.un_28, T.un_35, T.un_5, init_a, hp])
      rfl
    · have b0 := SlB.get hb h0
      simp only [Nat.add_zero] at b0
      have hn : ((l.length : Int) = 0) = False := eq_false (by omega)
      (refine calls_of_vc [] hm Tryd.func78 rfl (ts := [2, 3, 4]) rfl (by kernel_rfl) (by simp) ?_; simp (config := { dsimp := false }) only [go_sem, reduceIte, Nat.reduceEqDiff, reduceCtorEq, Nat.reduceAdd, Nat.reduceMul, Int.reduceToNat, Int.reduceLE, Int.reduceLT, Int.reduceEq, Int.reduceNe, Nat.reduceLeDiff, Int.reducePow, Nat.reducePow, Nat.reduceLT, Nat.reduceSub, Nat.reduceMod, Nat.reduceDiv, T.ag_5, T.es_28, T.ib_3, T.ib_35, T.ib_5, T.ii_28, T.ii_35, T.ii_5, T.ip_3, T.ip_35, T.ip_5, T.s8_28, T.s8_35, T.s8_5, T.sl_28, T.sl_35, T.sl_5, T.st_28, T.st_35, T.st_5, T.un_28, T.un_35, T.un_5, init_a, hp, b0, hn, shr6, shl1, and63])
      have hs := vsize_le l
      refine ⟨by omega, fun hlt => ?_, fun hge => ⟨by omega, by omega, ⟨by omega, by omega⟩, ?_⟩⟩
      · rw [vget, if_pos (by omega)]; rfl
      · refine loop_intro [] hm (fun r h' => h' = h ∧ ∃ i : Nat, i + 1 ≤ vsize l ∧ r 34 = .slice (some ⟨p, o + 1, none⟩) (vsize l - 1) 1 ∧ r 35 = .int .i64 ((vsize l - 1 : Nat) : Int) ∧ r 5 = .int .i64 (vsize l : Nat) ∧ r 6 = .int .u64 (vnum l (i + 1) : Nat) ∧ r 36 = .int .i64 (i : Nat)) (fun r _ => match r 36 with | .int _ i => 8 - i.toNat | _ => 0) ?_ ?_
        · have hv1 : vnum l 1 = (l.getD 0 0).toNat % 64 := by
            have : (l.take 1).drop 1 = [] := by simp
            simp only [vnum, this, List.foldl_nil]
          have e : ((vsize l : Int) - 1).toNat = vsize l - 1 := by omega
          refine ⟨rfl, 0, by omega, by simp [upd, e], by simp [upd, e], by simp [upd], ?_, by simp [upd]⟩
          have hw : IntKind.u64.wrap (((l.getD 0 0).toNat % 64 : Nat) : Int) = (((l.getD 0 0).toNat % 64 : Nat) : Int) := by rw [u64wrap] <;> omega
          show Value.int .u64 (IntKind.u64.wrap (IntKind.u8.wrap ((BitVec.ofInt 8 ((l.getD 0 0).toNat : Int) &&& BitVec.ofInt 8 63).toNat : Int))) = _
          rw [and63, hw, hv1]
        · rintro r h' ⟨rfl, i, g1, h1, h2, h3, h4, h5⟩
          by_cases hlt : i < vsize l - 1
          · have bi := SlB.get hb (n := i + 1) (by omega)
            have bi' : vs[o + 1 + i]? = some (.int .u8 ((l.getD (i + 1) 0).toNat : Int)) := by rw [← bi]; congr 1; omega
            have hlt' : ((i : Int) < ((vsize l - 1 : Nat) : Int)) = True := eq_true (by omega)
            have hn : vnum l (i + 1) < 64 * 256 ^ 6 := Nat.lt_of_lt_of_le (vnum_lt l (i + 1) (by omega)) (Nat.mul_le_mul_left _ (Nat.pow_le_pow_right (by omega) (by omega)))
            have e3 := or8 (b := l.getD (i + 1) 0) hn
            rw [← vnum_succ (by omega) (by omega)] at e3
            have e1 : IntKind.i64.wrap ((i : Int) + 1) = ((i + 1 : Nat) : Int) := by rw [i64wrap] <;> omega
            simp (config := { dsimp := false }) only [go_sem, reduceIte, Nat.reduceEqDiff, reduceCtorEq, Nat.reduceAdd, Nat.reduceMul, Int.reduceToNat, Int.reduceLE, Int.reduceLT, Int.reduceEq, Int.reduceNe, Nat.reduceLeDiff, Int.reducePow, Nat.reducePow, Nat.reduceLT, Nat.reduceSub, Nat.reduceMod, Nat.reduceDiv, T.ag_5, T.es_28, T.ib_3, T.ib_35, T.ib_5, T.ii_28, T.ii_35, T.ii_5, T.ip_3, T.ip_35, T.ip_5, T.s8_28, T.s8_35, T.s8_5, T.sl_28, T.sl_35, T.sl_5, T.st_28, T.st_35, T.st_5, T.un_28, T.un_35, T.un_5, h1, h2, h3, h4, h5, hp, bi', hlt', e3, e1, Nat.mul_one, decide_true]
            exact ⟨⟨i + 1, by omega, congrArg (Value.int .u64) e3, rfl⟩, by omega⟩
          · have hlt' : ((i : Int) < ((vsize l - 1 : Nat) : Int)) = False := eq_false (by omega)
            simp (config := { dsimp := false }) only [go_sem, reduceIte, Nat.reduceEqDiff, reduceCtorEq, Nat.reduceAdd, Nat.reduceMul, Int.reduceToNat, Int.reduceLE, Int.reduceLT, Int.reduceEq, Int.reduceNe, Nat.reduceLeDiff, Int.reducePow, Nat.reducePow, Nat.reduceLT, Nat.reduceSub, Nat.reduceMod, Nat.reduceDiv, T.ag_5, T.es_28, T.ib_3, T.ib_35, T.ib_5, T.ii_28, T.ii_35, T.ii_5, T.ip_3, T.ip_35, T.ip_5, T.s8_28, T.s8_35, T.s8_5, T.sl_28, T.sl_35, T.sl_5, T.st_28, T.st_35, T.st_5, T.un_28, T.un_35, T.un_5, h1, h2, h3, h4, h5, hlt', decide_false]
            have : i + 1 = vsize l := by omega
            rw [vget, if_neg (by omega), this]
end Ph
