import Derived.Test.YtbmmgibeidjgfaaDoorV1
set_option maxRecDepth 100000
set_option maxHeartbeats 4000000
set_option linter.unusedSimpArgs false
set_option linter.unusedVariables false
namespace Ph
open Go Go.Proofs
attribute [local irreducible] Value.cells
attribute [local go_sem ↓] y_move y_assign y_pick y_nil y_bin y_un y_fa y_field y_ext y_ia y_ix y_slice y_build y_mf y_load y_len y_min y_max y_conv y_bs y_mk y_alloc y_box y_store y_clear y_app y_callf y_callt s_move s_assign s_pick s_nil s_bin s_un s_fa s_field s_ext s_ia s_ix s_slice s_conv s_build s_bs s_mf s_alloc s_box s_load s_store s_len s_clear s_min s_max s_app s_call q_call q_move q_assign q_pick q_nil q_bin q_un q_fa q_field q_ext q_ia q_ix q_slice q_conv q_build q_mf q_load q_len q_min q_max l_nil l_move l_assign l_pick l_nilc l_bin l_un l_fa l_field l_ext l_ia l_ix l_slice l_conv l_build l_mf l_load l_len l_min l_max l_call put_eq putN_eq o_nil o_plain o_gate v_nil v_plain v_gate vc_skip vc_region vc_seq vc_cond vc_block vc_loop vc_rf vc_exit vc_ret blk_normal blk_ret blk_exit on_normal on_ret on_exit vc_drawn draw_q s_mk l_bs l_mk l_alloc l_box l_store l_app l_clear pl_done pl_takeS pl_take pl_alt pl_stop one_plain one_gate
attribute [local go_sem] clear_nil clear_sl onAgg_a onTuple_t onFn_f onFn_y onFunc_f c_int c_nil c_sl c_str sl_sl sl_nil sl_str ix_str ix_agg n_nil n_sl n_str app_eq k_nil k_sl len_sl len_str upd_some upd_none ev_tmp ev_const ev_func rd_some gdst_eq otmp_t otmp_c get_put get_alloc next_put next_alloc get_app next_app init_a resV1 resV2 onPtr_ptr onBool_b onInt_i onSlice_s onSome_s onCells_c lett_eq gate_tt gate_tf gate_ff gate_ft gate_dt gate_df also_eq bin un minmax io_none io_some bo_none bo_some partOf List.getElem?_cons_zero List.getElem?_cons_succ List.getElem?_toArray Option.map_some Option.map_none Option.bind_some ne_eq not_true_eq_false not_false_eq_true false_implies true_implies and_true true_and and_self Bool.false_eq_true Nat.zero_add Nat.add_zero List.size_toArray List.length_cons List.length_nil List.map_toArray List.map_cons List.map_nil Array.getD_eq_getD_getElem? Option.getD_some Bool.not_true Bool.not_false Bool.not_eq_true Option.isNone_some Option.isNone_none List.append_toArray List.append_nil List.nil_append List.cons_append decide_true decide_false in_nil in_cons Bool.and_false Bool.and_true Bool.or_false Bool.true_or Bool.false_or get_mask next_mask get_unmask next_unmask ac_move ac_assign ac_pick ac_nil ac_bin ac_un ac_fa ac_field ac_ext ac_ia ac_ix ac_slice ac_build ac_mf ac_call ac_load ac_conv accP_p accS_s accS_n accS_i accS_t fixed_ro fixed_lock fixed_own get_ro next_ro lock_live' lock_cells List.mem_cons List.not_mem_nil or_false false_or or_true true_or and_false false_and IntKind.bits Int.natCast_zero Int.natCast_one size_str data_str list_str mk_str ext_str app_str bytes_str w_byte w_byteu Int.toNat_natCast Int.toNat_zero Int.toNat_one Nat.sub_zero ge_iff_le gt_iff_lt Nat.le_refl Int.le_refl List.drop_zero Int.ofNat_eq_natCast Int.natCast_nonneg Int.sub_zero oc_int oc_bool oc_str oc_ptr oc_sl oc_map oc_func List.set_cons_zero List.set_cons_succ Nat.mul_one List.all_cons List.all_nil Bool.and_self res_nil res_tmp res_cell tup_one tup_two tup_nil fill_nil repl_zero cells_agg List.append_eq List.toList_toArray Nat.zero_mul Nat.one_mul repl_one repl_two onSome_build fill_cons onSome_lit splice_eq cells_int cells_bool cells_str cells_ptr cells_sl cells_map cells_func loadK_n loadK_s load_k storeK_n storeK_s store_k all_arr List.take_zero List.take_succ_cons List.drop_succ_cons List.take_nil List.drop_nil lk_own lk_ro lk_lock lk_lk fixed_lk gate_nt gate_nf gate3_b gate3_u undef Bool.true_and Bool.false_and nx_l nx_r nx_lt put_put resV0
theorem fits_u64 (n : Nat) (hn : n < 18446744073709551616) (sz : Nat) (hs : okSz sz) (h : Heap) : @CallsH Tryd.prog 16 #[.int .u64 n, .int .i64 sz] h ⟨fun v _ => v = .bool (decide (n < top sz))⟩ := by
  have w1 : IntKind.i64.wrap (IntKind.i64.wrap (8 * (sz : Int)) - 2) = 8 * (sz : Int) - 2 := by
    rcases hs with rfl | rfl | rfl | rfl <;> decide
  have hp : (0 ≤ 8 * (sz : Int) - 2) = True := eq_true (by rcases hs with rfl | rfl | rfl | rfl <;> decide)
  have w2 : IntKind.u64.wrap (n : Int) = n := u64wrap (by omega) (by omega)
  have key : ((n : Int).fdiv (2 ^ min (8 * (sz : Int) - 2).toNat 64) = 0) = (n < top sz) := by
    have e : (2 : Int) ^ min (8 * (sz : Int) - 2).toNat 64 = (top sz : Nat) := by rcases hs with rfl | rfl | rfl | rfl <;> decide
    rw [e, Int.fdiv_eq_ediv_of_nonneg _ (Int.natCast_nonneg _)]
    have ht : 0 < (top sz : Int) := by rcases hs with rfl | rfl | rfl | rfl <;> decide
    apply propext
    constructor
    · intro x
      rcases Classical.em (n < top sz) with y | y
      · exact y
      · have y : (top sz : Int) ≤ n := by omega
        have := Int.ediv_le_ediv ht y
        rw [Int.ediv_self (by omega)] at this; omega
    · intro x; exact Int.ediv_eq_zero_of_lt (by omega) (by omega)
  have h0' : (0 ≤ (n : Int)) = True := eq_true (by omega)
  (refine calls_of_vc [] hm Tryd.func16 rfl (ts := [4]) rfl (by kernel_rfl) (by simp) ?_; simp (config := { dsimp := false }) only [go_sem, reduceIte, Nat.reduceEqDiff, reduceCtorEq, Nat.reduceAdd, Nat.reduceMul, Int.reduceToNat, Int.reduceLE, Int.reduceLT, Int.reduceEq, Int.reduceNe, Nat.reduceLeDiff, Int.reducePow, Nat.reducePow, Nat.reduceLT, Nat.reduceSub, Nat.reduceMod, Nat.reduceDiv, T.ib_27, T.ib_3, T.ip_27, T.ip_3, init_a, w1, hp, w2, key, h0'])
theorem PutIn_u64 (h : Heap) (n : Nat) (sz : Nat) (hs : okSz sz) (hn : n < top sz) (hn2 : n < 18446744073709551616) :
    @CallsH Tryd.prog 17 #[.int .u64 n, .int .i64 sz] h ⟨fun w h' => ∃ v D, w = .tuple #[v, .int .i64 0] ∧ OwnRow u8E h' v D (vputS n sz) ∧ (∀ d ∈ D, h.next ≤ d) ∧ Upd h h' []⟩ := by
  have hsz : 1 ≤ sz ∧ sz ≤ 8 := by rcases hs with rfl | rfl | rfl | rfl <;> omega
  have htop : top sz ≤ 4611686018427387904 := by rcases hs with rfl | rfl | rfl | rfl <;> decide
  have c1 : ((sz : Int) < 1) = False := eq_false (by omega)
  have c2 : (8 < (sz : Int)) = False := eq_false (by omega)
  have c3 : (IntKind.i64.wrap ((BitVec.ofInt IntKind.i64.bits (sz : Int) &&& BitVec.ofInt IntKind.i64.bits (IntKind.i64.wrap ((sz : Int) - 1))).toNat : Int) = 0) = True := eq_true (by rcases hs with rfl | rfl | rfl | rfl <;> decide)
  (refine calls_of_vc [] hm Tryd.func17 rfl (ts := [4, 5]) rfl (by kernel_rfl) (by simp) ?_; simp (config := { dsimp := false }) only [go_sem, reduceIte, Nat.reduceEqDiff, reduceCtorEq, Nat.reduceAdd, Nat.reduceMul, Int.reduceToNat, Int.reduceLE, Int.reduceLT, Int.reduceEq, Int.reduceNe, Nat.reduceLeDiff, Int.reducePow, Nat.reducePow, Nat.reduceLT, Nat.reduceSub, Nat.reduceMod, Nat.reduceDiv, T.eb_23, T.ez_23, T.gf_16, T.gf_22, T.ib_27, T.ib_3, T.ii_23, T.ii_27, T.ii_3, T.ii_5, T.ii_54, T.ip_27, T.ip_3, T.s8_23, T.s8_27, T.s8_3, T.s8_5, T.s8_54, T.sl_23, T.sl_27, T.sl_3, T.sl_5, T.sl_54, T.st_23, T.st_27, T.st_3, T.st_5, T.st_54, T.un_23, T.un_27, T.un_3, T.un_5, T.un_54, init_a, c1, c2, c3])
  refine CallsH.pure _ rfl (fits_u64 n hn2 sz hs _) ?_
  have d1 : (n < top sz) = True := eq_true hn
  have w0 : IntKind.u64.wrap (n : Int) = n := u64wrap (by omega) (by omega)
  have w1 : IntKind.u64.wrap (sz : Int) = sz := u64wrap (by omega) (by omega)
  simp (config := { dsimp := false }) only [go_sem, reduceIte, Nat.reduceEqDiff, reduceCtorEq, Nat.reduceAdd, Nat.reduceMul, Int.reduceToNat, Int.reduceLE, Int.reduceLT, Int.reduceEq, Int.reduceNe, Nat.reduceLeDiff, Int.reducePow, Nat.reducePow, Nat.reduceLT, Nat.reduceSub, Nat.reduceMod, Nat.reduceDiv, T.eb_23, T.ez_23, T.gf_16, T.gf_22, T.ib_27, T.ib_3, T.ii_23, T.ii_27, T.ii_3, T.ii_5, T.ii_54, T.ip_27, T.ip_3, T.s8_23, T.s8_27, T.s8_3, T.s8_5, T.s8_54, T.sl_23, T.sl_27, T.sl_3, T.sl_5, T.sl_54, T.st_23, T.st_27, T.st_3, T.st_5, T.st_54, T.un_23, T.un_27, T.un_3, T.un_5, T.un_54, d1, w0, w1]
  refine CallsH.pure _ rfl (TrailingZeros_ph sz hs _) ?_
  have w2 : IntKind.i64.wrap (IntKind.i64.wrap (8 * (sz : Int)) - 2) = 8 * (sz : Int) - 2 := by rcases hs with rfl | rfl | rfl | rfl <;> decide
  have hp : (0 ≤ 8 * (sz : Int) - 2) = True := eq_true (by omega)
  have hx : IntKind.u64.wrap ((BitVec.ofInt IntKind.u64.bits (n : Int) ||| BitVec.ofInt IntKind.u64.bits (IntKind.u64.wrap (IntKind.u64.wrap (lg sz : Int) * 2 ^ min (8 * (sz : Int) - 2).toNat 64))).toNat : Int) = ((n + lg sz * top sz : Nat) : Int) := by
    have e1 : IntKind.u64.wrap (IntKind.u64.wrap (lg sz : Int) * 2 ^ min (8 * (sz : Int) - 2).toNat 64) = ((lg sz * top sz : Nat) : Int) := by rcases hs with rfl | rfl | rfl | rfl <;> decide
    have e2 : top sz = 2 ^ (8 * sz - 2) := by rcases hs with rfl | rfl | rfl | rfl <;> decide
    have e3 : lg sz * top sz ≤ 3 * 4611686018427387904 := by rcases hs with rfl | rfl | rfl | rfl <;> decide
    rw [e1, Nat.add_comm]
    exact u64or (8 * sz - 2) (by omega) (by rw [← e2]; exact Nat.dvd_mul_left _ _) (by omega)
  simp (config := { dsimp := false }) only [go_sem, reduceIte, Nat.reduceEqDiff, reduceCtorEq, Nat.reduceAdd, Nat.reduceMul, Int.reduceToNat, Int.reduceLE, Int.reduceLT, Int.reduceEq, Int.reduceNe, Nat.reduceLeDiff, Int.reducePow, Nat.reducePow, Nat.reduceLT, Nat.reduceSub, Nat.reduceMod, Nat.reduceDiv, T.eb_23, T.ez_23, T.gf_16, T.gf_22, T.ib_27, T.ib_3, T.ii_23, T.ii_27, T.ii_3, T.ii_5, T.ii_54, T.ip_27, T.ip_3, T.s8_23, T.s8_27, T.s8_3, T.s8_5, T.s8_54, T.sl_23, T.sl_27, T.sl_3, T.sl_5, T.sl_54, T.st_23, T.st_27, T.st_3, T.st_5, T.st_54, T.un_23, T.un_27, T.un_3, T.un_5, T.un_54, d1, w0, w1, w2, hp, hx]
  have e0 : IntKind.i64.wrap (8 * IntKind.i64.wrap ((sz : Int) - 1)) = 8 * (sz : Int) - 8 := by rw [i64wrap (x := (sz : Int) - 1) (by omega) (by omega), i64wrap (by omega) (by omega)]; omega
  generalize hX : n + lg sz * top sz = X
  refine loop_intro [] hm (fun r H => ∃ (acc : List UInt8) (D : List Nat) (k : Nat), r 6 = .int .u64 X ∧ r 8 = .int .i64 (8 * (k : Int) - 8) ∧ OwnRow u8E H (r 7) D acc ∧ (∀ d ∈ D, h.next ≤ d) ∧ Upd h H [] ∧ acc ++ lowS X k = vputS n sz ∧ k ≤ sz ∧ acc.length + k = sz) (fun r _ => match r 8 with | .int _ x => (x + 8).toNat | _ => 0) ?_ ?_
  · exact ⟨[], [], sz, by simp [upd, hX], by simp [upd, e0], by simpa [upd] using OwnRow.nil _, by simp, Upd.refl _ _, by rw [vputS, hX]; rfl, by omega, by simp⟩
  · rintro r H ⟨acc, D, k, h6, h8, hO, hD, hU, hacc, hk, hl⟩
    generalize h7 : r 7 = v7 at *
    cases k with
    | zero =>
      have hz : (0 ≤ 8 * (0 : Int) - 8) = False := eq_false (by omega)
      rw [lowS, List.append_nil] at hacc
      simp (config := { dsimp := false, maxSteps := 10000000 }) (disch := omega) only [go_sem, reduceIte, Nat.reduceEqDiff, reduceCtorEq, Nat.reduceAdd, Nat.reduceMul, Int.reduceToNat, Int.reduceLE, Int.reduceLT, Int.reduceEq, Int.reduceNe, Nat.reduceLeDiff, Int.reducePow, Nat.reducePow, Nat.reduceLT, Nat.reduceSub, Nat.reduceMod, Nat.reduceDiv, slot_neg, slot_pos, T.eb_23, T.ez_23, T.gf_16, T.gf_22, T.ib_27, T.ib_3, T.ii_23, T.ii_27, T.ii_3, T.ii_5, T.ii_54, T.ip_27, T.ip_3, T.s8_23, T.s8_27, T.s8_3, T.s8_5, T.s8_54, T.sl_23, T.sl_27, T.sl_3, T.sl_5, T.sl_54, T.st_23, T.st_27, T.st_3, T.st_5, T.st_54, T.un_23, T.un_27, T.un_3, T.un_5, T.un_54, h6, h7, h8, hz]
      exact ⟨v7, D, rfl, by rw [← hacc]; exact hO, hD, hU⟩
    | succ k =>
      have e1 : 8 * ((k + 1 : Nat) : Int) - 8 = 8 * (k : Int) := by omega
      have e2 : IntKind.i64.wrap (8 * (k : Int) - 8) = 8 * (k : Int) - 8 := by rw [i64wrap] <;> omega
      have hb := byteAt' (n := X) (k := k) (by omega)
      have hz2 : (0 ≤ 8 * (k : Int)) = True := eq_true (by omega)
      rw [e1] at h8
      simp (config := { dsimp := false, maxSteps := 10000000 }) (disch := omega) only [go_sem, reduceIte, Nat.reduceEqDiff, reduceCtorEq, Nat.reduceAdd, Nat.reduceMul, Int.reduceToNat, Int.reduceLE, Int.reduceLT, Int.reduceEq, Int.reduceNe, Nat.reduceLeDiff, Int.reducePow, Nat.reducePow, Nat.reduceLT, Nat.reduceSub, Nat.reduceMod, Nat.reduceDiv, slot_neg, slot_pos, T.eb_23, T.ez_23, T.gf_16, T.gf_22, T.ib_27, T.ib_3, T.ii_23, T.ii_27, T.ii_3, T.ii_5, T.ii_54, T.ip_27, T.ip_3, T.s8_23, T.s8_27, T.s8_3, T.s8_5, T.s8_54, T.sl_23, T.sl_27, T.sl_3, T.sl_5, T.sl_54, T.st_23, T.st_27, T.st_3, T.st_5, T.st_54, T.un_23, T.un_27, T.un_3, T.un_5, T.un_54, h6, h7, h8, hz2, e2, hb]
      have hg3 : ∀ (b : Blk) d, d < H.next → (H.alloc b).get d = H.get d := fun b d hd => by rw [get_alloc, if_neg (by omega)]
      refine app_own (E := u8E) (ns := [UInt8.ofNat (X / 256 ^ k)]) (hO.keep (Nat.le_succ _) fun d hd => hg3 _ d (hO.lt d hd)) rfl rfl rfl (by rw [show ([UInt8.ofNat (X / 256 ^ k)] : List UInt8).length = 1 from rfl]; omega) fun u H2 D2 hO2 hU2 hD2 => ?_
      have hn2 : H.next + 1 ≤ H2.next := hU2.1
      simp (config := { dsimp := false, maxSteps := 10000000 }) (disch := omega) only [go_sem, reduceIte, Nat.reduceEqDiff, reduceCtorEq, Nat.reduceAdd, Nat.reduceMul, Int.reduceToNat, Int.reduceLE, Int.reduceLT, Int.reduceEq, Int.reduceNe, Nat.reduceLeDiff, Int.reducePow, Nat.reducePow, Nat.reduceLT, Nat.reduceSub, Nat.reduceMod, Nat.reduceDiv, slot_neg, slot_pos, T.eb_23, T.ez_23, T.gf_16, T.gf_22, T.ib_27, T.ib_3, T.ii_23, T.ii_27, T.ii_3, T.ii_5, T.ii_54, T.ip_27, T.ip_3, T.s8_23, T.s8_27, T.s8_3, T.s8_5, T.s8_54, T.sl_23, T.sl_27, T.sl_3, T.sl_5, T.sl_54, T.st_23, T.st_27, T.st_3, T.st_5, T.st_54, T.un_23, T.un_27, T.un_3, T.un_5, T.un_54, h6, h8, hz2, e2]
      refine ⟨⟨acc ++ [UInt8.ofNat (X / 256 ^ k)], D2, k, rfl, hO2, fun d hd => ?_, hU.allocs.trans hU2 fun d hd => .inr (hD d hd), by rw [← hacc, lowS, List.append_assoc]; rfl, by omega, by simp at hl ⊢; omega⟩, by omega⟩
      rcases hD2 d hd with h1 | h1
      · exact hD d h1
      · have h2 : H.next + 1 ≤ d := h1
        have := hU.1; omega
theorem Put_u64 (h : Heap) (n : Nat) (hn : n < 18446744073709551616) :
    @CallsH Tryd.prog 9 #[.int .u64 n] h ⟨fun w h' => (n < 4611686018427387904 ∧ ∃ v D, w = .tuple #[v, .int .i64 0] ∧ OwnRow u8E h' v D (vputS n (vsz n)) ∧ (∀ d ∈ D, h.next ≤ d) ∧ Upd h h' []) ∨ (4611686018427387904 ≤ n ∧ w = .tuple #[.slice none 0 0, .int .i64 5] ∧ Upd h h' [])⟩ := by
  (refine calls_of_vc [] hm Tryd.func9 rfl (ts := [2, 3]) rfl (by kernel_rfl) (by simp) ?_; simp (config := { dsimp := false }) only [go_sem, reduceIte, Nat.reduceEqDiff, reduceCtorEq, Nat.reduceAdd, Nat.reduceMul, Int.reduceToNat, Int.reduceLE, Int.reduceLT, Int.reduceEq, Int.reduceNe, Nat.reduceLeDiff, Int.reducePow, Nat.reducePow, Nat.reduceLT, Nat.reduceSub, Nat.reduceMod, Nat.reduceDiv, T.gf_16, T.gf_17, T.ib_3, T.ip_3, init_a])
  refine loop_intro [] hm (fun r H => H = h ∧ ∃ sz : Nat, ((okSz sz ∧ sz ≤ vsz n) ∨ (sz = 16 ∧ 4611686018427387904 ≤ n)) ∧ r 0 = .int .u64 n ∧ r 4 = .int .i64 sz) (fun r _ => match r 4 with | .int _ x => (17 - x).toNat | _ => 0) ?_ ?_
  · exact ⟨rfl, 1, .inl ⟨.inl rfl, by rcases vsz_ok n with e | e | e | e <;> omega⟩, by simp [upd, initR], by simp [upd]⟩
  · rintro r _ ⟨rfl, sz, hs | ⟨hs, hbig⟩, h0, h4⟩
    · obtain ⟨hs, hle⟩ := hs
      have hz : ((sz : Int) ≤ 8) = True := eq_true (by rcases hs with e | e | e | e <;> omega)
      simp (config := { dsimp := false }) only [go_sem, reduceIte, Nat.reduceEqDiff, reduceCtorEq, Nat.reduceAdd, Nat.reduceMul, Int.reduceToNat, Int.reduceLE, Int.reduceLT, Int.reduceEq, Int.reduceNe, Nat.reduceLeDiff, Int.reducePow, Nat.reducePow, Nat.reduceLT, Nat.reduceSub, Nat.reduceMod, Nat.reduceDiv, T.gf_16, T.gf_17, T.ib_3, T.ip_3, h0, h4, hz]
      refine CallsH.pure _ rfl (fits_u64 n hn sz hs _) ?_
      by_cases hf : n < top sz
      · have d1 : (n < top sz) = True := eq_true hf
        have htop : top sz ≤ 4611686018427387904 := by rcases hs with rfl | rfl | rfl | rfl <;> decide
        have e : vsz n = sz := by
          rcases hs with rfl | rfl | rfl | rfl <;> simp only [top1, top2, top4, top8] at hf <;> rcases vsz_cases n with ⟨e, _⟩ | ⟨e, _⟩ | ⟨e, _⟩ | ⟨e, _⟩ <;> omega
        simp (config := { dsimp := false }) only [go_sem, reduceIte, Nat.reduceEqDiff, reduceCtorEq, Nat.reduceAdd, Nat.reduceMul, Int.reduceToNat, Int.reduceLE, Int.reduceLT, Int.reduceEq, Int.reduceNe, Nat.reduceLeDiff, Int.reducePow, Nat.reducePow, Nat.reduceLT, Nat.reduceSub, Nat.reduceMod, Nat.reduceDiv, T.gf_16, T.gf_17, T.ib_3, T.ip_3, h0, h4, d1, hz]
        refine (PutIn_u64 _ n sz hs hf hn).mono fun w h' ⟨v, D, hw, ho, hj, hk⟩ => ?_
        subst hw
        simp (config := { dsimp := false }) only [go_sem, reduceIte, Nat.reduceEqDiff, reduceCtorEq, Nat.reduceAdd, Nat.reduceMul, Int.reduceToNat, Int.reduceLE, Int.reduceLT, Int.reduceEq, Int.reduceNe, Nat.reduceLeDiff, Int.reducePow, Nat.reducePow, Nat.reduceLT, Nat.reduceSub, Nat.reduceMod, Nat.reduceDiv, T.gf_16, T.gf_17, T.ib_3, T.ip_3]
        exact .inl ⟨by omega, v, D, rfl, by rw [e]; exact ho, hj, hk⟩
      · have d1 : (n < top sz) = False := eq_false hf
        have hs2 : (okSz (sz * 2) ∧ sz * 2 ≤ vsz n) ∨ (sz * 2 = 16 ∧ 4611686018427387904 ≤ n) := by
          rcases hs with rfl | rfl | rfl | rfl <;> simp only [top1, top2, top4, top8] at hf <;> rcases vsz_cases n with ⟨e, _⟩ | ⟨e, _⟩ | ⟨e, _⟩ | ⟨e, _⟩ <;> first | omega | exact .inl ⟨by simp [okSz], by omega⟩ | exact .inr ⟨rfl, by omega⟩
        have w1 : IntKind.i64.wrap ((sz : Int) * 2) = ((sz * 2 : Nat) : Int) := by rw [i64wrap] <;> (rcases hs with e | e | e | e <;> omega)
        simp (config := { dsimp := false }) only [go_sem, reduceIte, Nat.reduceEqDiff, reduceCtorEq, Nat.reduceAdd, Nat.reduceMul, Int.reduceToNat, Int.reduceLE, Int.reduceLT, Int.reduceEq, Int.reduceNe, Nat.reduceLeDiff, Int.reducePow, Nat.reducePow, Nat.reduceLT, Nat.reduceSub, Nat.reduceMod, Nat.reduceDiv, T.gf_16, T.gf_17, T.ib_3, T.ip_3, h0, h4, d1, w1, hz]
        exact ⟨⟨sz * 2, hs2, rfl⟩, by rcases hs with e | e | e | e <;> omega⟩
    · have hz16 : ((sz : Int) ≤ 8) = False := eq_false (by omega)
      simp (config := { dsimp := false }) only [go_sem, reduceIte, Nat.reduceEqDiff, reduceCtorEq, Nat.reduceAdd, Nat.reduceMul, Int.reduceToNat, Int.reduceLE, Int.reduceLT, Int.reduceEq, Int.reduceNe, Nat.reduceLeDiff, Int.reducePow, Nat.reducePow, Nat.reduceLT, Nat.reduceSub, Nat.reduceMod, Nat.reduceDiv, T.gf_16, T.gf_17, T.ib_3, T.ip_3, h0, h4, hz16]
      exact .inr ⟨hbig, Upd.refl _ _⟩

theorem fits_i64 (n : Nat) (hn : n < 9223372036854775808) (sz : Nat) (hs : okSz sz) (h : Heap) : @CallsH Tryd.prog 19 #[.int .i64 n, .int .i64 sz] h ⟨fun v _ => v = .bool (decide (n < top sz))⟩ := by
  have w1 : IntKind.i64.wrap (IntKind.i64.wrap (8 * (sz : Int)) - 2) = 8 * (sz : Int) - 2 := by
    rcases hs with rfl | rfl | rfl | rfl <;> decide
  have hp : (0 ≤ 8 * (sz : Int) - 2) = True := eq_true (by rcases hs with rfl | rfl | rfl | rfl <;> decide)
  have w2 : IntKind.u64.wrap (n : Int) = n := u64wrap (by omega) (by omega)
  have key : ((n : Int).fdiv (2 ^ min (8 * (sz : Int) - 2).toNat 64) = 0) = (n < top sz) := by
    have e : (2 : Int) ^ min (8 * (sz : Int) - 2).toNat 64 = (top sz : Nat) := by rcases hs with rfl | rfl | rfl | rfl <;> decide
    rw [e, Int.fdiv_eq_ediv_of_nonneg _ (Int.natCast_nonneg _)]
    have ht : 0 < (top sz : Int) := by rcases hs with rfl | rfl | rfl | rfl <;> decide
    apply propext
    constructor
    · intro x
      rcases Classical.em (n < top sz) with y | y
      · exact y
      · have y : (top sz : Int) ≤ n := by omega
        have := Int.ediv_le_ediv ht y
        rw [Int.ediv_self (by omega)] at this; omega
    · intro x; exact Int.ediv_eq_zero_of_lt (by omega) (by omega)
  have h0' : (0 ≤ (n : Int)) = True := eq_true (by omega)
  (refine calls_of_vc [] hm Tryd.func19 rfl (ts := [4]) rfl (by kernel_rfl) (by simp) ?_; simp (config := { dsimp := false }) only [go_sem, reduceIte, Nat.reduceEqDiff, reduceCtorEq, Nat.reduceAdd, Nat.reduceMul, Int.reduceToNat, Int.reduceLE, Int.reduceLT, Int.reduceEq, Int.reduceNe, Nat.reduceLeDiff, Int.reducePow, Nat.reducePow, Nat.reduceLT, Nat.reduceSub, Nat.reduceMod, Nat.reduceDiv, T.ib_27, T.ib_3, T.ii_27, T.ii_3, T.ip_27, T.ip_3, T.s8_27, T.s8_3, T.sl_27, T.sl_3, T.st_27, T.st_3, T.un_27, T.un_3, init_a, w1, hp, w2, key, h0'])
theorem PutIn_i64 (h : Heap) (n : Nat) (sz : Nat) (hs : okSz sz) (hn : n < top sz) (hn2 : n < 9223372036854775808) :
    @CallsH Tryd.prog 20 #[.int .i64 n, .int .i64 sz] h ⟨fun w h' => ∃ v D, w = .tuple #[v, .int .i64 0] ∧ OwnRow u8E h' v D (vputS n sz) ∧ (∀ d ∈ D, h.next ≤ d) ∧ Upd h h' []⟩ := by
  have hsz : 1 ≤ sz ∧ sz ≤ 8 := by rcases hs with rfl | rfl | rfl | rfl <;> omega
  have htop : top sz ≤ 4611686018427387904 := by rcases hs with rfl | rfl | rfl | rfl <;> decide
  have c1 : ((sz : Int) < 1) = False := eq_false (by omega)
  have c2 : (8 < (sz : Int)) = False := eq_false (by omega)
  have c3 : (IntKind.i64.wrap ((BitVec.ofInt IntKind.i64.bits (sz : Int) &&& BitVec.ofInt IntKind.i64.bits (IntKind.i64.wrap ((sz : Int) - 1))).toNat : Int) = 0) = True := eq_true (by rcases hs with rfl | rfl | rfl | rfl <;> decide)
  (refine calls_of_vc [] hm Tryd.func20 rfl (ts := [4, 5]) rfl (by kernel_rfl) (by simp) ?_; simp (config := { dsimp := false }) only [go_sem, reduceIte, Nat.reduceEqDiff, reduceCtorEq, Nat.reduceAdd, Nat.reduceMul, Int.reduceToNat, Int.reduceLE, Int.reduceLT, Int.reduceEq, Int.reduceNe, Nat.reduceLeDiff, Int.reducePow, Nat.reducePow, Nat.reduceLT, Nat.reduceSub, Nat.reduceMod, Nat.reduceDiv, T.eb_23, T.ez_23, T.gf_19, T.gf_22, T.ib_27, T.ib_3, T.ii_23, T.ii_27, T.ii_3, T.ii_5, T.ii_54, T.ip_27, T.ip_3, T.s8_23, T.s8_27, T.s8_3, T.s8_5, T.s8_54, T.sl_23, T.sl_27, T.sl_3, T.sl_5, T.sl_54, T.st_23, T.st_27, T.st_3, T.st_5, T.st_54, T.un_23, T.un_27, T.un_3, T.un_5, T.un_54, init_a, c1, c2, c3])
  refine CallsH.pure _ rfl (fits_i64 n hn2 sz hs _) ?_
  have d1 : (n < top sz) = True := eq_true hn
  have w0 : IntKind.u64.wrap (n : Int) = n := u64wrap (by omega) (by omega)
  have w1 : IntKind.u64.wrap (sz : Int) = sz := u64wrap (by omega) (by omega)
  simp (config := { dsimp := false }) only [go_sem, reduceIte, Nat.reduceEqDiff, reduceCtorEq, Nat.reduceAdd, Nat.reduceMul, Int.reduceToNat, Int.reduceLE, Int.reduceLT, Int.reduceEq, Int.reduceNe, Nat.reduceLeDiff, Int.reducePow, Nat.reducePow, Nat.reduceLT, Nat.reduceSub, Nat.reduceMod, Nat.reduceDiv, T.eb_23, T.ez_23, T.gf_19, T.gf_22, T.ib_27, T.ib_3, T.ii_23, T.ii_27, T.ii_3, T.ii_5, T.ii_54, T.ip_27, T.ip_3, T.s8_23, T.s8_27, T.s8_3, T.s8_5, T.s8_54, T.sl_23, T.sl_27, T.sl_3, T.sl_5, T.sl_54, T.st_23, T.st_27, T.st_3, T.st_5, T.st_54, T.un_23, T.un_27, T.un_3, T.un_5, T.un_54, d1, w0, w1]
  refine CallsH.pure _ rfl (TrailingZeros_ph sz hs _) ?_
  have w2 : IntKind.i64.wrap (IntKind.i64.wrap (8 * (sz : Int)) - 2) = 8 * (sz : Int) - 2 := by rcases hs with rfl | rfl | rfl | rfl <;> decide
  have hp : (0 ≤ 8 * (sz : Int) - 2) = True := eq_true (by omega)
  have hx : IntKind.u64.wrap ((BitVec.ofInt IntKind.u64.bits (n : Int) ||| BitVec.ofInt IntKind.u64.bits (IntKind.u64.wrap (IntKind.u64.wrap (lg sz : Int) * 2 ^ min (8 * (sz : Int) - 2).toNat 64))).toNat : Int) = ((n + lg sz * top sz : Nat) : Int) := by
    have e1 : IntKind.u64.wrap (IntKind.u64.wrap (lg sz : Int) * 2 ^ min (8 * (sz : Int) - 2).toNat 64) = ((lg sz * top sz : Nat) : Int) := by rcases hs with rfl | rfl | rfl | rfl <;> decide
    have e2 : top sz = 2 ^ (8 * sz - 2) := by rcases hs with rfl | rfl | rfl | rfl <;> decide
    have e3 : lg sz * top sz ≤ 3 * 4611686018427387904 := by rcases hs with rfl | rfl | rfl | rfl <;> decide
    rw [e1, Nat.add_comm]
    exact u64or (8 * sz - 2) (by omega) (by rw [← e2]; exact Nat.dvd_mul_left _ _) (by omega)
  simp (config := { dsimp := false }) only [go_sem, reduceIte, Nat.reduceEqDiff, reduceCtorEq, Nat.reduceAdd, Nat.reduceMul, Int.reduceToNat, Int.reduceLE, Int.reduceLT, Int.reduceEq, Int.reduceNe, Nat.reduceLeDiff, Int.reducePow, Nat.reducePow, Nat.reduceLT, Nat.reduceSub, Nat.reduceMod, Nat.reduceDiv, T.eb_23, T.ez_23, T.gf_19, T.gf_22, T.ib_27, T.ib_3, T.ii_23, T.ii_27, T.ii_3, T.ii_5, T.ii_54, T.ip_27, T.ip_3, T.s8_23, T.s8_27, T.s8_3, T.s8_5, T.s8_54, T.sl_23, T.sl_27, T.sl_3, T.sl_5, T.sl_54, T.st_23, T.st_27, T.st_3, T.st_5, T.st_54, T.un_23, T.un_27, T.un_3, T.un_5, T.un_54, d1, w0, w1, w2, hp, hx]
  have e0 : IntKind.i64.wrap (8 * IntKind.i64.wrap ((sz : Int) - 1)) = 8 * (sz : Int) - 8 := by rw [i64wrap (x := (sz : Int) - 1) (by omega) (by omega), i64wrap (by omega) (by omega)]; omega
  generalize hX : n + lg sz * top sz = X
  refine loop_intro [] hm (fun r H => ∃ (acc : List UInt8) (D : List Nat) (k : Nat), r 6 = .int .u64 X ∧ r 8 = .int .i64 (8 * (k : Int) - 8) ∧ OwnRow u8E H (r 7) D acc ∧ (∀ d ∈ D, h.next ≤ d) ∧ Upd h H [] ∧ acc ++ lowS X k = vputS n sz ∧ k ≤ sz ∧ acc.length + k = sz) (fun r _ => match r 8 with | .int _ x => (x + 8).toNat | _ => 0) ?_ ?_
  · exact ⟨[], [], sz, by simp [upd, hX], by simp [upd, e0], by simpa [upd] using OwnRow.nil _, by simp, Upd.refl _ _, by rw [vputS, hX]; rfl, by omega, by simp⟩
  · rintro r H ⟨acc, D, k, h6, h8, hO, hD, hU, hacc, hk, hl⟩
    generalize h7 : r 7 = v7 at *
    cases k with
    | zero =>
      have hz : (0 ≤ 8 * (0 : Int) - 8) = False := eq_false (by omega)
      rw [lowS, List.append_nil] at hacc
      simp (config := { dsimp := false, maxSteps := 10000000 }) (disch := omega) only [go_sem, reduceIte, Nat.reduceEqDiff, reduceCtorEq, Nat.reduceAdd, Nat.reduceMul, Int.reduceToNat, Int.reduceLE, Int.reduceLT, Int.reduceEq, Int.reduceNe, Nat.reduceLeDiff, Int.reducePow, Nat.reducePow, Nat.reduceLT, Nat.reduceSub, Nat.reduceMod, Nat.reduceDiv, slot_neg, slot_pos, T.eb_23, T.ez_23, T.gf_19, T.gf_22, T.ib_27, T.ib_3, T.ii_23, T.ii_27, T.ii_3, T.ii_5, T.ii_54, T.ip_27, T.ip_3, T.s8_23, T.s8_27, T.s8_3, T.s8_5, T.s8_54, T.sl_23, T.sl_27, T.sl_3, T.sl_5, T.sl_54, T.st_23, T.st_27, T.st_3, T.st_5, T.st_54, T.un_23, T.un_27, T.un_3, T.un_5, T.un_54, h6, h7, h8, hz]
      exact ⟨v7, D, rfl, by rw [← hacc]; exact hO, hD, hU⟩
    | succ k =>
      have e1 : 8 * ((k + 1 : Nat) : Int) - 8 = 8 * (k : Int) := by omega
      have e2 : IntKind.i64.wrap (8 * (k : Int) - 8) = 8 * (k : Int) - 8 := by rw [i64wrap] <;> omega
      have hb := byteAt' (n := X) (k := k) (by omega)
      have hz2 : (0 ≤ 8 * (k : Int)) = True := eq_true (by omega)
      rw [e1] at h8
      simp (config := { dsimp := false, maxSteps := 10000000 }) (disch := omega) only [go_sem, reduceIte, Nat.reduceEqDiff, reduceCtorEq, Nat.reduceAdd, Nat.reduceMul, Int.reduceToNat, Int.reduceLE, Int.reduceLT, Int.reduceEq, Int.reduceNe, Nat.reduceLeDiff, Int.reducePow, Nat.reducePow, Nat.reduceLT, Nat.reduceSub, Nat.reduceMod, Nat.reduceDiv, slot_neg, slot_pos, T.eb_23, T.ez_23, T.gf_19, T.gf_22, T.ib_27, T.ib_3, T.ii_23, T.ii_27, T.ii_3, T.ii_5, T.ii_54, T.ip_27, T.ip_3, T.s8_23, T.s8_27, T.s8_3, T.s8_5, T.s8_54, T.sl_23, T.sl_27, T.sl_3, T.sl_5, T.sl_54, T.st_23, T.st_27, T.st_3, T.st_5, T.st_54, T.un_23, T.un_27, T.un_3, T.un_5, T.un_54, h6, h7, h8, hz2, e2, hb]
      have hg3 : ∀ (b : Blk) d, d < H.next → (H.alloc b).get d = H.get d := fun b d hd => by rw [get_alloc, if_neg (by omega)]
      refine app_own (E := u8E) (ns := [UInt8.ofNat (X / 256 ^ k)]) (hO.keep (Nat.le_succ _) fun d hd => hg3 _ d (hO.lt d hd)) rfl rfl rfl (by rw [show ([UInt8.ofNat (X / 256 ^ k)] : List UInt8).length = 1 from rfl]; omega) fun u H2 D2 hO2 hU2 hD2 => ?_
      have hn2 : H.next + 1 ≤ H2.next := hU2.1
      simp (config := { dsimp := false, maxSteps := 10000000 }) (disch := omega) only [go_sem, reduceIte, Nat.reduceEqDiff, reduceCtorEq, Nat.reduceAdd, Nat.reduceMul, Int.reduceToNat, Int.reduceLE, Int.reduceLT, Int.reduceEq, Int.reduceNe, Nat.reduceLeDiff, Int.reducePow, Nat.reducePow, Nat.reduceLT, Nat.reduceSub, Nat.reduceMod, Nat.reduceDiv, slot_neg, slot_pos, T.eb_23, T.ez_23, T.gf_19, T.gf_22, T.ib_27, T.ib_3, T.ii_23, T.ii_27, T.ii_3, T.ii_5, T.ii_54, T.ip_27, T.ip_3, T.s8_23, T.s8_27, T.s8_3, T.s8_5, T.s8_54, T.sl_23, T.sl_27, T.sl_3, T.sl_5, T.sl_54, T.st_23, T.st_27, T.st_3, T.st_5, T.st_54, T.un_23, T.un_27, T.un_3, T.un_5, T.un_54, h6, h8, hz2, e2]
      refine ⟨⟨acc ++ [UInt8.ofNat (X / 256 ^ k)], D2, k, rfl, hO2, fun d hd => ?_, hU.allocs.trans hU2 fun d hd => .inr (hD d hd), by rw [← hacc, lowS, List.append_assoc]; rfl, by omega, by simp at hl ⊢; omega⟩, by omega⟩
      rcases hD2 d hd with h1 | h1
      · exact hD d h1
      · have h2 : H.next + 1 ≤ d := h1
        have := hU.1; omega
theorem Put_i64 (h : Heap) (n : Nat) (hn : n < 9223372036854775808) :
    @CallsH Tryd.prog 12 #[.int .i64 n] h ⟨fun w h' => (n < 4611686018427387904 ∧ ∃ v D, w = .tuple #[v, .int .i64 0] ∧ OwnRow u8E h' v D (vputS n (vsz n)) ∧ (∀ d ∈ D, h.next ≤ d) ∧ Upd h h' []) ∨ (4611686018427387904 ≤ n ∧ w = .tuple #[.slice none 0 0, .int .i64 5] ∧ Upd h h' [])⟩ := by
  (refine calls_of_vc [] hm Tryd.func12 rfl (ts := [2, 3]) rfl (by kernel_rfl) (by simp) ?_; simp (config := { dsimp := false }) only [go_sem, reduceIte, Nat.reduceEqDiff, reduceCtorEq, Nat.reduceAdd, Nat.reduceMul, Int.reduceToNat, Int.reduceLE, Int.reduceLT, Int.reduceEq, Int.reduceNe, Nat.reduceLeDiff, Int.reducePow, Nat.reducePow, Nat.reduceLT, Nat.reduceSub, Nat.reduceMod, Nat.reduceDiv, T.gf_19, T.gf_20, T.ib_3, T.ip_3, init_a])
  refine loop_intro [] hm (fun r H => H = h ∧ ∃ sz : Nat, ((okSz sz ∧ sz ≤ vsz n) ∨ (sz = 16 ∧ 4611686018427387904 ≤ n)) ∧ r 0 = .int .i64 n ∧ r 4 = .int .i64 sz) (fun r _ => match r 4 with | .int _ x => (17 - x).toNat | _ => 0) ?_ ?_
  · exact ⟨rfl, 1, .inl ⟨.inl rfl, by rcases vsz_ok n with e | e | e | e <;> omega⟩, by simp [upd, initR], by simp [upd]⟩
  · rintro r _ ⟨rfl, sz, hs | ⟨hs, hbig⟩, h0, h4⟩
    · obtain ⟨hs, hle⟩ := hs
      have hz : ((sz : Int) ≤ 8) = True := eq_true (by rcases hs with e | e | e | e <;> omega)
      simp (config := { dsimp := false }) only [go_sem, reduceIte, Nat.reduceEqDiff, reduceCtorEq, Nat.reduceAdd, Nat.reduceMul, Int.reduceToNat, Int.reduceLE, Int.reduceLT, Int.reduceEq, Int.reduceNe, Nat.reduceLeDiff, Int.reducePow, Nat.reducePow, Nat.reduceLT, Nat.reduceSub, Nat.reduceMod, Nat.reduceDiv, T.gf_19, T.gf_20, T.ib_3, T.ip_3, h0, h4, hz]
      refine CallsH.pure _ rfl (fits_i64 n hn sz hs _) ?_
      by_cases hf : n < top sz
      · have d1 : (n < top sz) = True := eq_true hf
        have htop : top sz ≤ 4611686018427387904 := by rcases hs with rfl | rfl | rfl | rfl <;> decide
        have e : vsz n = sz := by
          rcases hs with rfl | rfl | rfl | rfl <;> simp only [top1, top2, top4, top8] at hf <;> rcases vsz_cases n with ⟨e, _⟩ | ⟨e, _⟩ | ⟨e, _⟩ | ⟨e, _⟩ <;> omega
        simp (config := { dsimp := false }) only [go_sem, reduceIte, Nat.reduceEqDiff, reduceCtorEq, Nat.reduceAdd, Nat.reduceMul, Int.reduceToNat, Int.reduceLE, Int.reduceLT, Int.reduceEq, Int.reduceNe, Nat.reduceLeDiff, Int.reducePow, Nat.reducePow, Nat.reduceLT, Nat.reduceSub, Nat.reduceMod, Nat.reduceDiv, T.gf_19, T.gf_20, T.ib_3, T.ip_3, h0, h4, d1, hz]
        refine (PutIn_i64 _ n sz hs hf hn).mono fun w h' ⟨v, D, hw, ho, hj, hk⟩ => ?_
        subst hw
        simp (config := { dsimp := false }) only [go_sem, reduceIte, Nat.reduceEqDiff, reduceCtorEq, Nat.reduceAdd, Nat.reduceMul, Int.reduceToNat, Int.reduceLE, Int.reduceLT, Int.reduceEq, Int.reduceNe, Nat.reduceLeDiff, Int.reducePow, Nat.reducePow, Nat.reduceLT, Nat.reduceSub, Nat.reduceMod, Nat.reduceDiv, T.gf_19, T.gf_20, T.ib_3, T.ip_3]
        exact .inl ⟨by omega, v, D, rfl, by rw [e]; exact ho, hj, hk⟩
      · have d1 : (n < top sz) = False := eq_false hf
        have hs2 : (okSz (sz * 2) ∧ sz * 2 ≤ vsz n) ∨ (sz * 2 = 16 ∧ 4611686018427387904 ≤ n) := by
          rcases hs with rfl | rfl | rfl | rfl <;> simp only [top1, top2, top4, top8] at hf <;> rcases vsz_cases n with ⟨e, _⟩ | ⟨e, _⟩ | ⟨e, _⟩ | ⟨e, _⟩ <;> first | omega | exact .inl ⟨by simp [okSz], by omega⟩ | exact .inr ⟨rfl, by omega⟩
        have w1 : IntKind.i64.wrap ((sz : Int) * 2) = ((sz * 2 : Nat) : Int) := by rw [i64wrap] <;> (rcases hs with e | e | e | e <;> omega)
        simp (config := { dsimp := false }) only [go_sem, reduceIte, Nat.reduceEqDiff, reduceCtorEq, Nat.reduceAdd, Nat.reduceMul, Int.reduceToNat, Int.reduceLE, Int.reduceLT, Int.reduceEq, Int.reduceNe, Nat.reduceLeDiff, Int.reducePow, Nat.reducePow, Nat.reduceLT, Nat.reduceSub, Nat.reduceMod, Nat.reduceDiv, T.gf_19, T.gf_20, T.ib_3, T.ip_3, h0, h4, d1, w1, hz]
        exact ⟨⟨sz * 2, hs2, rfl⟩, by rcases hs with e | e | e | e <;> omega⟩
    · have hz16 : ((sz : Int) ≤ 8) = False := eq_false (by omega)
      simp (config := { dsimp := false }) only [go_sem, reduceIte, Nat.reduceEqDiff, reduceCtorEq, Nat.reduceAdd, Nat.reduceMul, Int.reduceToNat, Int.reduceLE, Int.reduceLT, Int.reduceEq, Int.reduceNe, Nat.reduceLeDiff, Int.reducePow, Nat.reducePow, Nat.reduceLT, Nat.reduceSub, Nat.reduceMod, Nat.reduceDiv, T.gf_19, T.gf_20, T.ib_3, T.ip_3, h0, h4, hz16]
      exact .inr ⟨hbig, Upd.refl _ _⟩

theorem fits_u8 (n : Nat) (hn : n < 256) (sz : Nat) (hs : okSz sz) (h : Heap) : @CallsH Tryd.prog 21 #[.int .u8 n, .int .i64 sz] h ⟨fun v _ => v = .bool (decide (n < top sz))⟩ := by
  have w1 : IntKind.i64.wrap (IntKind.i64.wrap (8 * (sz : Int)) - 2) = 8 * (sz : Int) - 2 := by
    rcases hs with rfl | rfl | rfl | rfl <;> decide
  have hp : (0 ≤ 8 * (sz : Int) - 2) = True := eq_true (by rcases hs with rfl | rfl | rfl | rfl <;> decide)
  have w2 : IntKind.u64.wrap (n : Int) = n := u64wrap (by omega) (by omega)
  have key : ((n : Int).fdiv (2 ^ min (8 * (sz : Int) - 2).toNat 64) = 0) = (n < top sz) := by
    have e : (2 : Int) ^ min (8 * (sz : Int) - 2).toNat 64 = (top sz : Nat) := by rcases hs with rfl | rfl | rfl | rfl <;> decide
    rw [e, Int.fdiv_eq_ediv_of_nonneg _ (Int.natCast_nonneg _)]
    have ht : 0 < (top sz : Int) := by rcases hs with rfl | rfl | rfl | rfl <;> decide
    apply propext
    constructor
    · intro x
      rcases Classical.em (n < top sz) with y | y
      · exact y
      · have y : (top sz : Int) ≤ n := by omega
        have := Int.ediv_le_ediv ht y
        rw [Int.ediv_self (by omega)] at this; omega
    · intro x; exact Int.ediv_eq_zero_of_lt (by omega) (by omega)
  have h0' : (0 ≤ (n : Int)) = True := eq_true (by omega)
  (refine calls_of_vc [] hm Tryd.func21 rfl (ts := [4]) rfl (by kernel_rfl) (by simp) ?_; simp (config := { dsimp := false }) only [go_sem, reduceIte, Nat.reduceEqDiff, reduceCtorEq, Nat.reduceAdd, Nat.reduceMul, Int.reduceToNat, Int.reduceLE, Int.reduceLT, Int.reduceEq, Int.reduceNe, Nat.reduceLeDiff, Int.reducePow, Nat.reducePow, Nat.reduceLT, Nat.reduceSub, Nat.reduceMod, Nat.reduceDiv, T.ib_27, T.ib_3, T.ib_5, T.ii_27, T.ii_5, T.ip_27, T.ip_3, T.ip_5, T.s8_27, T.s8_5, T.sl_27, T.sl_5, T.st_27, T.st_5, T.un_27, T.un_5, init_a, w1, hp, w2, key, h0'])
theorem PutIn_u8 (h : Heap) (n : Nat) (sz : Nat) (hs : okSz sz) (hn : n < top sz) (hn2 : n < 256) :
    @CallsH Tryd.prog 13 #[.int .u8 n, .int .i64 sz] h ⟨fun w h' => ∃ v D, w = .tuple #[v, .int .i64 0] ∧ OwnRow u8E h' v D (vputS n sz) ∧ (∀ d ∈ D, h.next ≤ d) ∧ Upd h h' []⟩ := by
  have hsz : 1 ≤ sz ∧ sz ≤ 8 := by rcases hs with rfl | rfl | rfl | rfl <;> omega
  have htop : top sz ≤ 4611686018427387904 := by rcases hs with rfl | rfl | rfl | rfl <;> decide
  have c1 : ((sz : Int) < 1) = False := eq_false (by omega)
  have c2 : (8 < (sz : Int)) = False := eq_false (by omega)
  have c3 : (IntKind.i64.wrap ((BitVec.ofInt IntKind.i64.bits (sz : Int) &&& BitVec.ofInt IntKind.i64.bits (IntKind.i64.wrap ((sz : Int) - 1))).toNat : Int) = 0) = True := eq_true (by rcases hs with rfl | rfl | rfl | rfl <;> decide)
  (refine calls_of_vc [] hm Tryd.func13 rfl (ts := [4, 5]) rfl (by kernel_rfl) (by simp) ?_; simp (config := { dsimp := false }) only [go_sem, reduceIte, Nat.reduceEqDiff, reduceCtorEq, Nat.reduceAdd, Nat.reduceMul, Int.reduceToNat, Int.reduceLE, Int.reduceLT, Int.reduceEq, Int.reduceNe, Nat.reduceLeDiff, Int.reducePow, Nat.reducePow, Nat.reduceLT, Nat.reduceSub, Nat.reduceMod, Nat.reduceDiv, T.eb_23, T.ez_23, T.gf_21, T.gf_22, T.ib_27, T.ib_3, T.ii_23, T.ii_27, T.ii_3, T.ii_5, T.ii_54, T.ip_27, T.ip_3, T.s8_23, T.s8_27, T.s8_3, T.s8_5, T.s8_54, T.sl_23, T.sl_27, T.sl_3, T.sl_5, T.sl_54, T.st_23, T.st_27, T.st_3, T.st_5, T.st_54, T.un_23, T.un_27, T.un_3, T.un_5, T.un_54, init_a, c1, c2, c3])
  refine CallsH.pure _ rfl (fits_u8 n hn2 sz hs _) ?_
  have d1 : (n < top sz) = True := eq_true hn
  have w0 : IntKind.u64.wrap (n : Int) = n := u64wrap (by omega) (by omega)
  have w1 : IntKind.u64.wrap (sz : Int) = sz := u64wrap (by omega) (by omega)
  simp (config := { dsimp := false }) only [go_sem, reduceIte, Nat.reduceEqDiff, reduceCtorEq, Nat.reduceAdd, Nat.reduceMul, Int.reduceToNat, Int.reduceLE, Int.reduceLT, Int.reduceEq, Int.reduceNe, Nat.reduceLeDiff, Int.reducePow, Nat.reducePow, Nat.reduceLT, Nat.reduceSub, Nat.reduceMod, Nat.reduceDiv, T.eb_23, T.ez_23, T.gf_21, T.gf_22, T.ib_27, T.ib_3, T.ii_23, T.ii_27, T.ii_3, T.ii_5, T.ii_54, T.ip_27, T.ip_3, T.s8_23, T.s8_27, T.s8_3, T.s8_5, T.s8_54, T.sl_23, T.sl_27, T.sl_3, T.sl_5, T.sl_54, T.st_23, T.st_27, T.st_3, T.st_5, T.st_54, T.un_23, T.un_27, T.un_3, T.un_5, T.un_54, d1, w0, w1]
  refine CallsH.pure _ rfl (TrailingZeros_ph sz hs _) ?_
  have w2 : IntKind.i64.wrap (IntKind.i64.wrap (8 * (sz : Int)) - 2) = 8 * (sz : Int) - 2 := by rcases hs with rfl | rfl | rfl | rfl <;> decide
  have hp : (0 ≤ 8 * (sz : Int) - 2) = True := eq_true (by omega)
  have hx : IntKind.u64.wrap ((BitVec.ofInt IntKind.u64.bits (n : Int) ||| BitVec.ofInt IntKind.u64.bits (IntKind.u64.wrap (IntKind.u64.wrap (lg sz : Int) * 2 ^ min (8 * (sz : Int) - 2).toNat 64))).toNat : Int) = ((n + lg sz * top sz : Nat) : Int) := by
    have e1 : IntKind.u64.wrap (IntKind.u64.wrap (lg sz : Int) * 2 ^ min (8 * (sz : Int) - 2).toNat 64) = ((lg sz * top sz : Nat) : Int) := by rcases hs with rfl | rfl | rfl | rfl <;> decide
    have e2 : top sz = 2 ^ (8 * sz - 2) := by rcases hs with rfl | rfl | rfl | rfl <;> decide
    have e3 : lg sz * top sz ≤ 3 * 4611686018427387904 := by rcases hs with rfl | rfl | rfl | rfl <;> decide
    rw [e1, Nat.add_comm]
    exact u64or (8 * sz - 2) (by omega) (by rw [← e2]; exact Nat.dvd_mul_left _ _) (by omega)
  simp (config := { dsimp := false }) only [go_sem, reduceIte, Nat.reduceEqDiff, reduceCtorEq, Nat.reduceAdd, Nat.reduceMul, Int.reduceToNat, Int.reduceLE, Int.reduceLT, Int.reduceEq, Int.reduceNe, Nat.reduceLeDiff, Int.reducePow, Nat.reducePow, Nat.reduceLT, Nat.reduceSub, Nat.reduceMod, Nat.reduceDiv, T.eb_23, T.ez_23, T.gf_21, T.gf_22, T.ib_27, T.ib_3, T.ii_23, T.ii_27, T.ii_3, T.ii_5, T.ii_54, T.ip_27, T.ip_3, T.s8_23, T.s8_27, T.s8_3, T.s8_5, T.s8_54, T.sl_23, T.sl_27, T.sl_3, T.sl_5, T.sl_54, T.st_23, T.st_27, T.st_3, T.st_5, T.st_54, T.un_23, T.un_27, T.un_3, T.un_5, T.un_54, d1, w0, w1, w2, hp, hx]
  have e0 : IntKind.i64.wrap (8 * IntKind.i64.wrap ((sz : Int) - 1)) = 8 * (sz : Int) - 8 := by rw [i64wrap (x := (sz : Int) - 1) (by omega) (by omega), i64wrap (by omega) (by omega)]; omega
  generalize hX : n + lg sz * top sz = X
  refine loop_intro [] hm (fun r H => ∃ (acc : List UInt8) (D : List Nat) (k : Nat), r 6 = .int .u64 X ∧ r 8 = .int .i64 (8 * (k : Int) - 8) ∧ OwnRow u8E H (r 7) D acc ∧ (∀ d ∈ D, h.next ≤ d) ∧ Upd h H [] ∧ acc ++ lowS X k = vputS n sz ∧ k ≤ sz ∧ acc.length + k = sz) (fun r _ => match r 8 with | .int _ x => (x + 8).toNat | _ => 0) ?_ ?_
  · exact ⟨[], [], sz, by simp [upd, hX], by simp [upd, e0], by simpa [upd] using OwnRow.nil _, by simp, Upd.refl _ _, by rw [vputS, hX]; rfl, by omega, by simp⟩
  · rintro r H ⟨acc, D, k, h6, h8, hO, hD, hU, hacc, hk, hl⟩
    generalize h7 : r 7 = v7 at *
    cases k with
    | zero =>
      have hz : (0 ≤ 8 * (0 : Int) - 8) = False := eq_false (by omega)
      rw [lowS, List.append_nil] at hacc
      simp (config := { dsimp := false, maxSteps := 10000000 }) (disch := omega) only [go_sem, reduceIte, Nat.reduceEqDiff, reduceCtorEq, Nat.reduceAdd, Nat.reduceMul, Int.reduceToNat, Int.reduceLE, Int.reduceLT, Int.reduceEq, Int.reduceNe, Nat.reduceLeDiff, Int.reducePow, Nat.reducePow, Nat.reduceLT, Nat.reduceSub, Nat.reduceMod, Nat.reduceDiv, slot_neg, slot_pos, T.eb_23, T.ez_23, T.gf_21, T.gf_22, T.ib_27, T.ib_3, T.ii_23, T.ii_27, T.ii_3, T.ii_5, T.ii_54, T.ip_27, T.ip_3, T.s8_23, T.s8_27, T.s8_3, T.s8_5, T.s8_54, T.sl_23, T.sl_27, T.sl_3, T.sl_5, T.sl_54, T.st_23, T.st_27, T.st_3, T.st_5, T.st_54, T.un_23, T.un_27, T.un_3, T.un_5, T.un_54, h6, h7, h8, hz]
      exact ⟨v7, D, rfl, by rw [← hacc]; exact hO, hD, hU⟩
    | succ k =>
      have e1 : 8 * ((k + 1 : Nat) : Int) - 8 = 8 * (k : Int) := by omega
      have e2 : IntKind.i64.wrap (8 * (k : Int) - 8) = 8 * (k : Int) - 8 := by rw [i64wrap] <;> omega
      have hb := byteAt' (n := X) (k := k) (by omega)
      have hz2 : (0 ≤ 8 * (k : Int)) = True := eq_true (by omega)
      rw [e1] at h8
      simp (config := { dsimp := false, maxSteps := 10000000 }) (disch := omega) only [go_sem, reduceIte, Nat.reduceEqDiff, reduceCtorEq, Nat.reduceAdd, Nat.reduceMul, Int.reduceToNat, Int.reduceLE, Int.reduceLT, Int.reduceEq, Int.reduceNe, Nat.reduceLeDiff, Int.reducePow, Nat.reducePow, Nat.reduceLT, Nat.reduceSub, Nat.reduceMod, Nat.reduceDiv, slot_neg, slot_pos, T.eb_23, T.ez_23, T.gf_21, T.gf_22, T.ib_27, T.ib_3, T.ii_23, T.ii_27, T.ii_3, T.ii_5, T.ii_54, T.ip_27, T.ip_3, T.s8_23, T.s8_27, T.s8_3, T.s8_5, T.s8_54, T.sl_23, T.sl_27, T.sl_3, T.sl_5, T.sl_54, T.st_23, T.st_27, T.st_3, T.st_5, T.st_54, T.un_23, T.un_27, T.un_3, T.un_5, T.un_54, h6, h7, h8, hz2, e2, hb]
      have hg3 : ∀ (b : Blk) d, d < H.next → (H.alloc b).get d = H.get d := fun b d hd => by rw [get_alloc, if_neg (by omega)]
      refine app_own (E := u8E) (ns := [UInt8.ofNat (X / 256 ^ k)]) (hO.keep (Nat.le_succ _) fun d hd => hg3 _ d (hO.lt d hd)) rfl rfl rfl (by rw [show ([UInt8.ofNat (X / 256 ^ k)] : List UInt8).length = 1 from rfl]; omega) fun u H2 D2 hO2 hU2 hD2 => ?_
      have hn2 : H.next + 1 ≤ H2.next := hU2.1
      simp (config := { dsimp := false, maxSteps := 10000000 }) (disch := omega) only [go_sem, reduceIte, Nat.reduceEqDiff, reduceCtorEq, Nat.reduceAdd, Nat.reduceMul, Int.reduceToNat, Int.reduceLE, Int.reduceLT, Int.reduceEq, Int.reduceNe, Nat.reduceLeDiff, Int.reducePow, Nat.reducePow, Nat.reduceLT, Nat.reduceSub, Nat.reduceMod, Nat.reduceDiv, slot_neg, slot_pos, T.eb_23, T.ez_23, T.gf_21, T.gf_22, T.ib_27, T.ib_3, T.ii_23, T.ii_27, T.ii_3, T.ii_5, T.ii_54, T.ip_27, T.ip_3, T.s8_23, T.s8_27, T.s8_3, T.s8_5, T.s8_54, T.sl_23, T.sl_27, T.sl_3, T.sl_5, T.sl_54, T.st_23, T.st_27, T.st_3, T.st_5, T.st_54, T.un_23, T.un_27, T.un_3, T.un_5, T.un_54, h6, h8, hz2, e2]
      refine ⟨⟨acc ++ [UInt8.ofNat (X / 256 ^ k)], D2, k, rfl, hO2, fun d hd => ?_, hU.allocs.trans hU2 fun d hd => .inr (hD d hd), by rw [← hacc, lowS, List.append_assoc]; rfl, by omega, by simp at hl ⊢; omega⟩, by omega⟩
      rcases hD2 d hd with h1 | h1
      · exact hD d h1
      · have h2 : H.next + 1 ≤ d := h1
        have := hU.1; omega

end Ph
