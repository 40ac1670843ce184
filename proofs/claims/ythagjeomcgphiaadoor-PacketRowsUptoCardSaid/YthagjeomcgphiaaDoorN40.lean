import Derived.Test.YthagjeomcgphiaaDoorN59
set_option maxRecDepth 100000
set_option maxHeartbeats 4000000
set_option linter.unusedSimpArgs false
set_option linter.unusedVariables false
namespace Ph
open Go Go.Proofs
attribute [local irreducible] Value.cells
attribute [local go_sem ↓] s_move s_assign s_pick s_nil s_bin s_un s_fa s_field s_ext s_ia s_ix s_slice s_conv s_build s_bs s_mf s_alloc s_box s_load s_store s_len s_min s_max s_app s_call q_call q_move q_assign q_pick q_nil q_bin q_un q_fa q_field q_ext q_ia q_ix q_slice q_conv q_build q_mf q_load q_len q_min q_max l_nil l_move l_assign l_pick l_nilc l_bin l_un l_fa l_field l_ext l_ia l_ix l_slice l_conv l_build l_mf l_load l_len l_min l_max l_call put_eq putN_eq o_nil o_plain o_gate v_nil v_plain v_gate vc_skip vc_region vc_seq vc_cond vc_block vc_loop vc_exit vc_ret blk_normal blk_ret blk_exit on_normal on_ret on_exit vc_drawn draw_q s_mk l_bs l_mk l_alloc l_box l_store l_app pl_done pl_take pl_alt pl_stop one_plain one_gate
attribute [local go_sem] onAgg_a onTuple_t onFunc_f c_int c_nil c_sl c_str sl_sl sl_nil sl_str ix_str ix_agg n_nil n_sl n_str app_eq k_nil k_sl len_sl len_str upd_some upd_none ev_tmp ev_const ev_func rd_some gdst_eq otmp_t otmp_c get_put get_alloc next_put next_alloc get_app next_app init_a resV1 resV2 onPtr_ptr onBool_b onInt_i onSlice_s onSome_s onCells_c lett_eq gate_tt gate_tf gate_ff gate_ft gate_dt gate_df also_eq bin un minmax io_none io_some bo_none bo_some partOf List.getElem?_cons_zero List.getElem?_cons_succ List.getElem?_toArray Option.map_some Option.map_none Option.bind_some ne_eq not_true_eq_false not_false_eq_true false_implies true_implies and_true true_and and_self Bool.false_eq_true Nat.zero_add Nat.add_zero List.size_toArray List.length_cons List.length_nil List.map_toArray List.map_cons List.map_nil Array.getD_eq_getD_getElem? Option.getD_some Bool.not_true Bool.not_false Bool.not_eq_true Option.isNone_some Option.isNone_none List.append_toArray List.append_nil List.nil_append List.cons_append decide_true decide_false in_nil in_cons Bool.and_false Bool.and_true Bool.or_false Bool.true_or Bool.false_or get_mask next_mask get_unmask next_unmask ac_move ac_assign ac_pick ac_nil ac_bin ac_un ac_fa ac_field ac_ext ac_ia ac_ix ac_slice ac_build ac_mf ac_call ac_load ac_conv accP_p accS_s accS_n accS_i accS_t fixed_ro fixed_lock fixed_own get_ro next_ro lock_live' lock_cells List.mem_cons List.not_mem_nil or_false false_or or_true true_or and_false false_and IntKind.bits Int.natCast_zero Int.natCast_one size_str data_str list_str mk_str ext_str app_str bytes_str w_byte w_byteu Int.toNat_natCast Int.toNat_zero Int.toNat_one Nat.sub_zero ge_iff_le gt_iff_lt Nat.le_refl Int.le_refl List.drop_zero Int.ofNat_eq_natCast Int.natCast_nonneg Int.sub_zero oc_int oc_bool oc_str oc_ptr oc_sl oc_map oc_func List.set_cons_zero List.set_cons_succ Nat.mul_one List.all_cons List.all_nil Bool.and_self res_nil res_tmp res_cell tup_one tup_two tup_nil fill_nil repl_zero cells_agg List.append_eq List.toList_toArray Nat.zero_mul Nat.one_mul repl_one repl_two onSome_build fill_cons onSome_lit splice_eq cells_int cells_bool cells_str cells_ptr cells_sl cells_map cells_func loadK_n loadK_s load_k storeK_n storeK_s store_k all_arr List.take_zero List.take_succ_cons List.drop_succ_cons List.take_nil List.drop_nil lk_own lk_ro lk_lock lk_lk fixed_lk gate_nt gate_nf gate3_b gate3_u undef Bool.true_and Bool.false_and nx_l nx_r nx_lt
def top (sz : Nat) : Nat := 64 * 256 ^ (sz - 1)
def vputS (n sz : Nat) : List UInt8 := lowS (n + lg sz * top sz) sz
def okSz (sz : Nat) : Prop := sz = 1 ∨ sz = 2 ∨ sz = 4 ∨ sz = 8
theorem fits_ph (n : Int) (hn0 : -9223372036854775808 ≤ n) (hn1 : n ≤ 9223372036854775807) (sz : Nat) (hs : okSz sz) (h : Heap) : @CallsH Tryd.prog 58 #[.int .i64 n, .int .i64 sz] h ⟨fun v _ => v = .bool (decide (0 ≤ n ∧ n < top sz))⟩ := by
  have w1 : IntKind.i64.wrap (IntKind.i64.wrap (8 * (sz : Int)) - 2) = 8 * (sz : Int) - 2 := by
    rcases hs with rfl | rfl | rfl | rfl <;> decide
  have hp : (0 ≤ 8 * (sz : Int) - 2) = True := eq_true (by rcases hs with rfl | rfl | rfl | rfl <;> decide)
  by_cases h0 : 0 ≤ n
  · have w2 : IntKind.u64.wrap n = n := u64wrap h0 (by omega)
    have key : (n.fdiv (2 ^ min (8 * (sz : Int) - 2).toNat 64) = 0) = (n < top sz) := by
      have e : (2 : Int) ^ min (8 * (sz : Int) - 2).toNat 64 = (top sz : Nat) := by rcases hs with rfl | rfl | rfl | rfl <;> decide
      rw [e, Int.fdiv_eq_ediv_of_nonneg _ (Int.natCast_nonneg _)]
      have ht : 0 < (top sz : Int) := by rcases hs with rfl | rfl | rfl | rfl <;> decide
      apply propext
      constructor
      · intro x
        rcases Classical.em (n < top sz) with y | y
        · exact y
        · have y : (top sz : Int) ≤ n := by omega
          have := Int.ediv_le_ediv ht y
          rw [Int.ediv_self (by omega)] at this; omega
      · intro x; exact Int.ediv_eq_zero_of_lt h0 x
    have h0' : (0 ≤ n) = True := eq_true h0
    (refine calls_of_vc [] hm Tryd.func58 rfl (ts := [4]) rfl (by kernel_rfl) (by simp) ?_; simp (config := { dsimp := false }) only [go_sem, reduceIte, Nat.reduceEqDiff, reduceCtorEq, Nat.reduceAdd, Nat.reduceMul, Int.reduceToNat, Int.reduceLE, Int.reduceLT, Int.reduceEq, Int.reduceNe, Nat.reduceLeDiff, Int.reducePow, Nat.reducePow, Nat.reduceLT, Nat.reduceSub, Nat.reduceMod, Nat.reduceDiv, T.ib_3, T.ib_35, T.ii_3, T.ii_35, T.ip_3, T.ip_35, T.s8_3, T.s8_35, T.sl_3, T.sl_35, T.st_3, T.st_35, T.un_3, T.un_35, init_a, w1, hp, w2, key, h0'])
  · have h0' : (0 ≤ n) = False := eq_false h0
    (refine calls_of_vc [] hm Tryd.func58 rfl (ts := [4]) rfl (by kernel_rfl) (by simp) ?_; simp (config := { dsimp := false }) only [go_sem, reduceIte, Nat.reduceEqDiff, reduceCtorEq, Nat.reduceAdd, Nat.reduceMul, Int.reduceToNat, Int.reduceLE, Int.reduceLT, Int.reduceEq, Int.reduceNe, Nat.reduceLeDiff, Int.reducePow, Nat.reducePow, Nat.reduceLT, Nat.reduceSub, Nat.reduceMod, Nat.reduceDiv, T.ib_3, T.ib_35, T.ii_3, T.ii_35, T.ip_3, T.ip_35, T.s8_3, T.s8_35, T.sl_3, T.sl_35, T.st_3, T.st_35, T.un_3, T.un_35, init_a, h0'])
theorem u64or {x y : Nat} (k : Nat) (hy : y < 2 ^ k) (hx : 2 ^ k ∣ x) (hs : x + y < 18446744073709551616) : IntKind.u64.wrap ((BitVec.ofInt 64 (y : Int) ||| BitVec.ofInt 64 (x : Int)).toNat : Int) = ((x + y : Nat) : Int) := by
  have e1 : (BitVec.ofInt 64 (x : Int)).toNat = x := by rw [BitVec.ofInt_natCast, BitVec.toNat_ofNat, Nat.mod_eq_of_lt (by omega)]
  have e2 : (BitVec.ofInt 64 (y : Int)).toNat = y := by rw [BitVec.ofInt_natCast, BitVec.toNat_ofNat, Nat.mod_eq_of_lt (by omega)]
  rw [BitVec.toNat_or, e1, e2, Nat.or_comm, or_add hy hx, u64wrap] <;> omega
theorem byteAt' {n k : Nat} (hk : k ≤ 7) : IntKind.u8.wrap ((n : Int).fdiv (2 ^ min (8 * (k : Int)).toNat 64)) = ((UInt8.ofNat (n / 256 ^ k)).toNat : Int) := by
  have e : min (8 * (k : Int)).toNat 64 = 8 * k := by omega
  have e2 : (2 : Int) ^ (8 * k) = ((256 ^ k : Nat) : Int) := by rw [show (2 : Int) = ((2 : Nat) : Int) from rfl, ← Int.natCast_pow, Nat.pow_mul]
  rw [e, e2, Int.fdiv_eq_ediv_of_nonneg _ (Int.natCast_nonneg _), ← Int.natCast_ediv]
  simp only [IntKind.wrap, IntKind.bits, IntKind.signed]
  simp
/-- nothing yet, or a row of one's own that is new -/
def NewB (h : Heap) (n0 : Nat) (v : Value) (l : List UInt8) : Prop := (v = .slice none 0 0 ∧ l = []) ∨ ∃ j, OwnB h j v l ∧ n0 ≤ j
theorem PutIn_ph (h : Heap) (n : Nat) (sz : Nat) (hs : okSz sz) (hn : n < top sz) :
    @CallsH Tryd.prog 40 #[.int .i64 n, .int .i64 sz] h ⟨fun w h' => ∃ v j, w = .tuple #[v, .int .i64 0] ∧ OwnB h' j v (vputS n sz) ∧ h.next ≤ j ∧ Kept h h'⟩ := by
  have hsz : 1 ≤ sz ∧ sz ≤ 8 := by rcases hs with rfl | rfl | rfl | rfl <;> omega
  have htop : top sz ≤ 4611686018427387904 := by rcases hs with rfl | rfl | rfl | rfl <;> decide
  have c1 : ((sz : Int) < 1) = False := eq_false (by omega)
  have c2 : (8 < (sz : Int)) = False := eq_false (by omega)
  have c3 : (IntKind.i64.wrap ((BitVec.ofInt IntKind.i64.bits (sz : Int) &&& BitVec.ofInt IntKind.i64.bits (IntKind.i64.wrap ((sz : Int) - 1))).toNat : Int) = 0) = True := eq_true (by rcases hs with rfl | rfl | rfl | rfl <;> decide)
  (refine calls_of_vc [] hm Tryd.func40 rfl (ts := [4, 5]) rfl (by kernel_rfl) (by simp) ?_; simp (config := { dsimp := false }) only [go_sem, reduceIte, Nat.reduceEqDiff, reduceCtorEq, Nat.reduceAdd, Nat.reduceMul, Int.reduceToNat, Int.reduceLE, Int.reduceLT, Int.reduceEq, Int.reduceNe, Nat.reduceLeDiff, Int.reducePow, Nat.reducePow, Nat.reduceLT, Nat.reduceSub, Nat.reduceMod, Nat.reduceDiv, T.eb_28, T.ez_28, T.gf_58, T.gf_59, T.ib_3, T.ib_35, T.ii_28, T.ii_3, T.ii_35, T.ii_5, T.ii_80, T.ip_3, T.ip_35, T.s8_28, T.s8_3, T.s8_35, T.s8_5, T.s8_80, T.sl_28, T.sl_3, T.sl_35, T.sl_5, T.sl_80, T.st_28, T.st_3, T.st_35, T.st_5, T.st_80, T.un_28, T.un_3, T.un_35, T.un_5, T.un_80, init_a, c1, c2, c3])
  refine CallsH.pure _ rfl (fits_ph n (by omega) (by omega) sz hs _) ?_
  have d1 : ((n : Int) < (top sz : Int)) = True := eq_true (by omega)
  have w0 : IntKind.u64.wrap (n : Int) = n := u64wrap (by omega) (by omega)
  have w1 : IntKind.u64.wrap (sz : Int) = sz := u64wrap (by omega) (by omega)
  simp (config := { dsimp := false }) only [go_sem, reduceIte, Nat.reduceEqDiff, reduceCtorEq, Nat.reduceAdd, Nat.reduceMul, Int.reduceToNat, Int.reduceLE, Int.reduceLT, Int.reduceEq, Int.reduceNe, Nat.reduceLeDiff, Int.reducePow, Nat.reducePow, Nat.reduceLT, Nat.reduceSub, Nat.reduceMod, Nat.reduceDiv, T.eb_28, T.ez_28, T.gf_58, T.gf_59, T.ib_3, T.ib_35, T.ii_28, T.ii_3, T.ii_35, T.ii_5, T.ii_80, T.ip_3, T.ip_35, T.s8_28, T.s8_3, T.s8_35, T.s8_5, T.s8_80, T.sl_28, T.sl_3, T.sl_35, T.sl_5, T.sl_80, T.st_28, T.st_3, T.st_35, T.st_5, T.st_80, T.un_28, T.un_3, T.un_35, T.un_5, T.un_80, d1, w0, w1]
  refine CallsH.pure _ rfl (TrailingZeros_ph sz hs _) ?_
  have w2 : IntKind.i64.wrap (IntKind.i64.wrap (8 * (sz : Int)) - 2) = 8 * (sz : Int) - 2 := by rcases hs with rfl | rfl | rfl | rfl <;> decide
  have hp : (0 ≤ 8 * (sz : Int) - 2) = True := eq_true (by omega)
  have hx : IntKind.u64.wrap ((BitVec.ofInt IntKind.u64.bits (n : Int) ||| BitVec.ofInt IntKind.u64.bits (IntKind.u64.wrap (IntKind.u64.wrap (lg sz : Int) * 2 ^ min (8 * (sz : Int) - 2).toNat 64))).toNat : Int) = ((n + lg sz * top sz : Nat) : Int) := by
    have e1 : IntKind.u64.wrap (IntKind.u64.wrap (lg sz : Int) * 2 ^ min (8 * (sz : Int) - 2).toNat 64) = ((lg sz * top sz : Nat) : Int) := by rcases hs with rfl | rfl | rfl | rfl <;> decide
    have e2 : top sz = 2 ^ (8 * sz - 2) := by rcases hs with rfl | rfl | rfl | rfl <;> decide
    have e3 : lg sz * top sz ≤ 3 * 4611686018427387904 := by rcases hs with rfl | rfl | rfl | rfl <;> decide
    rw [e1, Nat.add_comm]
    exact u64or (8 * sz - 2) (by omega) (by rw [← e2]; exact Nat.dvd_mul_left _ _) (by omega)
  simp (config := { dsimp := false }) only [go_sem, reduceIte, Nat.reduceEqDiff, reduceCtorEq, Nat.reduceAdd, Nat.reduceMul, Int.reduceToNat, Int.reduceLE, Int.reduceLT, Int.reduceEq, Int.reduceNe, Nat.reduceLeDiff, Int.reducePow, Nat.reducePow, Nat.reduceLT, Nat.reduceSub, Nat.reduceMod, Nat.reduceDiv, T.eb_28, T.ez_28, T.gf_58, T.gf_59, T.ib_3, T.ib_35, T.ii_28, T.ii_3, T.ii_35, T.ii_5, T.ii_80, T.ip_3, T.ip_35, T.s8_28, T.s8_3, T.s8_35, T.s8_5, T.s8_80, T.sl_28, T.sl_3, T.sl_35, T.sl_5, T.sl_80, T.st_28, T.st_3, T.st_35, T.st_5, T.st_80, T.un_28, T.un_3, T.un_35, T.un_5, T.un_80, d1, w0, w1, w2, hp, hx]
  have e0 : IntKind.i64.wrap (8 * IntKind.i64.wrap ((sz : Int) - 1)) = 8 * (sz : Int) - 8 := by rw [i64wrap (x := (sz : Int) - 1) (by omega) (by omega), i64wrap (by omega) (by omega)]; omega
  generalize hX : n + lg sz * top sz = X
  refine loop_intro [] hm (fun r H => ∃ (acc : List UInt8) (k : Nat), r 6 = .int .u64 X ∧ r 8 = .int .i64 (8 * (k : Int) - 8) ∧ NewB H h.next (r 7) acc ∧ Kept h H ∧ acc ++ lowS X k = vputS n sz ∧ k ≤ sz ∧ acc.length + k = sz) (fun r _ => match r 8 with | .int _ x => (x + 8).toNat | _ => 0) ?_ ?_
  · exact ⟨[], sz, by simp [upd, hX], by simp [upd, e0], .inl ⟨by simp [upd], rfl⟩, Kept.refl _, by rw [vputS, hX]; rfl, by omega, by simp⟩
  · rintro r H ⟨acc, k, h6, h8, h7, hK, hacc, hk, hl⟩
    cases k with
    | zero =>
      have hz : (0 ≤ 8 * (0 : Int) - 8) = False := eq_false (by omega)
      rw [lowS, List.append_nil] at hacc
      rcases h7 with ⟨h7, rfl⟩ | ⟨j, ⟨h7, hj, hg⟩, hj2⟩
      · simp at hl; omega
      · simp (config := { dsimp := false }) only [go_sem, reduceIte, Nat.reduceEqDiff, reduceCtorEq, Nat.reduceAdd, Nat.reduceMul, Int.reduceToNat, Int.reduceLE, Int.reduceLT, Int.reduceEq, Int.reduceNe, Nat.reduceLeDiff, Int.reducePow, Nat.reducePow, Nat.reduceLT, Nat.reduceSub, Nat.reduceMod, Nat.reduceDiv, T.eb_28, T.ez_28, T.gf_58, T.gf_59, T.ib_3, T.ib_35, T.ii_28, T.ii_3, T.ii_35, T.ii_5, T.ii_80, T.ip_3, T.ip_35, T.s8_28, T.s8_3, T.s8_35, T.s8_5, T.s8_80, T.sl_28, T.sl_3, T.sl_35, T.sl_5, T.sl_80, T.st_28, T.st_3, T.st_35, T.st_5, T.st_80, T.un_28, T.un_3, T.un_35, T.un_5, T.un_80, h6, h7, h8, hz]
        exact ⟨_, j, rfl, ⟨by rw [← hacc], hj, by rw [← hacc]; exact hg⟩, hj2, hK⟩
    | succ k =>
      have e1 : 8 * ((k + 1 : Nat) : Int) - 8 = 8 * (k : Int) := by omega
      have e2 : IntKind.i64.wrap (8 * (k : Int) - 8) = 8 * (k : Int) - 8 := by rw [i64wrap] <;> omega
      have hb := byteAt' (n := X) (k := k) (by omega)
      have hz2 : (0 ≤ 8 * (k : Int)) = True := eq_true (by omega)
      rw [e1] at h8
      obtain ⟨kn, ko⟩ := hK
      rcases h7 with ⟨h7, rfl⟩ | ⟨j, ⟨h7, hj, hg⟩, hj2⟩
      · simp (config := { dsimp := false }) only [go_sem, reduceIte, Nat.reduceEqDiff, reduceCtorEq, Nat.reduceAdd, Nat.reduceMul, Int.reduceToNat, Int.reduceLE, Int.reduceLT, Int.reduceEq, Int.reduceNe, Nat.reduceLeDiff, Int.reducePow, Nat.reducePow, Nat.reduceLT, Nat.reduceSub, Nat.reduceMod, Nat.reduceDiv, T.eb_28, T.ez_28, T.gf_58, T.gf_59, T.ib_3, T.ib_35, T.ii_28, T.ii_3, T.ii_35, T.ii_5, T.ii_80, T.ip_3, T.ip_35, T.s8_28, T.s8_3, T.s8_35, T.s8_5, T.s8_80, T.sl_28, T.sl_3, T.sl_35, T.sl_5, T.sl_80, T.st_28, T.st_3, T.st_35, T.st_5, T.st_80, T.un_28, T.un_3, T.un_35, T.un_5, T.un_80, h6, h7, h8, hz2, e2, hb]
        refine ⟨⟨[UInt8.ofNat (X / 256 ^ k)], k, rfl, .inr ⟨H.next + 1, ⟨rfl, by simp [Heap.alloc], by rw [get_alloc, next_alloc, if_pos rfl]; rfl⟩, by omega⟩, Kept.alloc' (Kept.alloc' ⟨kn, ko⟩), by rw [← hacc, lowS]; rfl, by omega, by simp at hl ⊢; omega⟩, by omega⟩
      · have d1 : (j = H.next) = False := eq_false (by omega)
        have d2 : (H.next = j) = False := eq_false (by omega)
        have ht : List.take acc.length (bc acc) = bc acc := List.take_of_length_le (by rw [bc_len]; exact Nat.le_refl _)
        simp (config := { dsimp := false }) only [go_sem, reduceIte, Nat.reduceEqDiff, reduceCtorEq, Nat.reduceAdd, Nat.reduceMul, Int.reduceToNat, Int.reduceLE, Int.reduceLT, Int.reduceEq, Int.reduceNe, Nat.reduceLeDiff, Int.reducePow, Nat.reducePow, Nat.reduceLT, Nat.reduceSub, Nat.reduceMod, Nat.reduceDiv, T.eb_28, T.ez_28, T.gf_58, T.gf_59, T.ib_3, T.ib_35, T.ii_28, T.ii_3, T.ii_35, T.ii_5, T.ii_80, T.ip_3, T.ip_35, T.s8_28, T.s8_3, T.s8_35, T.s8_5, T.s8_80, T.sl_28, T.sl_3, T.sl_35, T.sl_5, T.sl_80, T.st_28, T.st_3, T.st_35, T.st_5, T.st_80, T.un_28, T.un_3, T.un_35, T.un_5, T.un_80, h6, h7, h8, hz2, e2, hb, hg, d1, d2, ht, bc_len]
        refine ⟨⟨by omega, by omega⟩, ⟨acc ++ [UInt8.ofNat (X / 256 ^ k)], k, rfl, .inr ⟨H.next + 1, ⟨by simp, by simp [appHeap, Heap.alloc], by simp [appHeap, Heap.alloc, bc]⟩, by omega⟩, ⟨by simp [appHeap, Heap.alloc]; omega, fun id hid => ?_⟩, by rw [← hacc, lowS, List.append_assoc]; rfl, by omega, by simp at hl ⊢; omega⟩, by omega⟩
        rw [get_app, next_alloc, if_neg (by omega), if_neg (by show ¬ id = j; omega), get_alloc, if_neg (by omega)]
        exact ko id hid
end Ph
