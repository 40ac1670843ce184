import Derived.Test.YthagjeomcgphiaaDoorN64
set_option maxRecDepth 100000
set_option linter.unusedSimpArgs false
namespace Ph
open Go Go.Proofs
attribute [local irreducible] Value.cells
attribute [local go_sem ↓] s_move s_assign s_pick s_nil s_bin s_un s_fa s_field s_ext s_ia s_ix s_slice s_conv s_build s_bs s_mf s_alloc s_box s_load s_store s_len s_min s_max s_app s_call q_call q_move q_assign q_pick q_nil q_bin q_un q_fa q_field q_ext q_ia q_ix q_slice q_conv q_build q_mf q_load q_len q_min q_max l_nil l_move l_assign l_pick l_nilc l_bin l_un l_fa l_field l_ext l_ia l_ix l_slice l_conv l_build l_mf l_load l_len l_min l_max l_call put_eq putN_eq o_nil o_plain o_gate v_nil v_plain v_gate vc_skip vc_region vc_seq vc_cond vc_block vc_loop vc_exit vc_ret blk_normal blk_ret blk_exit on_normal on_ret on_exit vc_drawn draw_q s_mk l_bs l_mk l_alloc l_box l_store l_app pl_done pl_take pl_alt pl_stop one_plain one_gate
attribute [local go_sem] onAgg_a onTuple_t onFunc_f c_int c_nil c_sl c_str sl_sl sl_nil sl_str ix_str ix_agg n_nil n_sl n_str app_eq k_nil k_sl len_sl len_str upd_some upd_none ev_tmp ev_const ev_func rd_some gdst_eq otmp_t otmp_c get_put get_alloc next_put next_alloc get_app next_app init_a resV1 resV2 onPtr_ptr onBool_b onInt_i onSlice_s onSome_s onCells_c lett_eq gate_tt gate_tf gate_ff gate_ft gate_dt gate_df also_eq bin un minmax io_none io_some bo_none bo_some partOf List.getElem?_cons_zero List.getElem?_cons_succ List.getElem?_toArray Option.map_some Option.map_none Option.bind_some ne_eq not_true_eq_false not_false_eq_true false_implies true_implies and_true true_and and_self Bool.false_eq_true Nat.zero_add Nat.add_zero List.size_toArray List.length_cons List.length_nil List.map_toArray List.map_cons List.map_nil Array.getD_eq_getD_getElem? Option.getD_some Bool.not_true Bool.not_false Bool.not_eq_true Option.isNone_some Option.isNone_none List.append_toArray List.append_nil List.nil_append List.cons_append decide_true decide_false in_nil in_cons Bool.and_false Bool.and_true Bool.or_false Bool.true_or Bool.false_or get_mask next_mask get_unmask next_unmask ac_move ac_assign ac_pick ac_nil ac_bin ac_un ac_fa ac_field ac_ext ac_ia ac_ix ac_slice ac_build ac_mf ac_call ac_load ac_conv accP_p accS_s accS_n accS_i accS_t fixed_ro fixed_lock fixed_own get_ro next_ro lock_live' lock_cells List.mem_cons List.not_mem_nil or_false false_or or_true true_or and_false false_and IntKind.bits Int.natCast_zero Int.natCast_one size_str data_str list_str mk_str ext_str app_str bytes_str w_byte w_byteu Int.toNat_natCast Int.toNat_zero Int.toNat_one Nat.sub_zero ge_iff_le gt_iff_lt Nat.le_refl Int.le_refl List.drop_zero Int.ofNat_eq_natCast Int.natCast_nonneg Int.sub_zero oc_int oc_bool oc_str oc_ptr oc_sl oc_map oc_func List.set_cons_zero List.set_cons_succ Nat.mul_one List.all_cons List.all_nil Bool.and_self res_nil res_tmp res_cell tup_one tup_two tup_nil fill_nil repl_zero cells_agg List.append_eq List.toList_toArray Nat.zero_mul Nat.one_mul repl_one repl_two onSome_build fill_cons onSome_lit splice_eq cells_int cells_bool cells_str cells_ptr cells_sl cells_map cells_func loadK_n loadK_s load_k storeK_n storeK_s store_k all_arr List.take_zero List.take_succ_cons List.drop_succ_cons List.take_nil List.drop_nil lk_own lk_ro lk_lock lk_lk fixed_lk gate_nt gate_nf gate3_b gate3_u undef Bool.true_and Bool.false_and nx_l nx_r nx_lt
theorem SlB.four {h v a b c d} (hs : SlB h v [a, b, c, d]) : ∃ p o vs q, v = .slice (some ⟨p, o, none⟩) 4 1 ∧ h.get p = .live (.cells vs q) ∧ vs[o]? = some (.int .u8 a.toNat) ∧ vs[o + 1]? = some (.int .u8 b.toNat) ∧ vs[o + 2]? = some (.int .u8 c.toNat) ∧ vs[o + 3]? = some (.int .u8 d.toNat) := by
  rcases hs with ⟨_, h0⟩ | ⟨p, o, vs, q, rfl, hp, hb, hl⟩
  · cases h0
  · exact ⟨p, o, vs, q, rfl, hp, SlB.get hb (n := 0) (by simp), SlB.get hb (n := 1) (by simp), SlB.get hb (n := 2) (by simp), SlB.get hb (n := 3) (by simp)⟩
def four (l : List UInt8) : Int := (((l.getD 0 0).toNat * 256 + (l.getD 1 0).toNat) * 256 + (l.getD 2 0).toNat) * 256 + (l.getD 3 0).toNat
theorem take_len (l : List UInt8) (e : Int) (n : Nat) (hn : n ≤ 4) : (takeS l e n).bytes.length = n := by
  unfold takeS; split
  · split
    · simp; omega
    · simp; omega
  · simp; omega
theorem len4 {l : List UInt8} (h : l.length = 4) : ∃ a b c d, l = [a, b, c, d] := by
  match l, h with
  | [a, b, c, d], _ => exact ⟨a, b, c, d, rfl⟩
theorem or_add {x y k : Nat} (hy : y < 2 ^ k) (hx : 2 ^ k ∣ x) : x ||| y = x + y := by
  obtain ⟨z, rfl⟩ := hx
  rw [Nat.mul_comm, ← Nat.shiftLeft_eq, Nat.shiftLeft_add_eq_or_of_lt hy]
theorem i64or {x y : Nat} (k : Nat) (hy : y < 2 ^ k) (hx : 2 ^ k ∣ x) (hs : x + y < 9223372036854775808) : IntKind.i64.wrap ((BitVec.ofInt 64 (x : Int) ||| BitVec.ofInt 64 (y : Int)).toNat : Int) = ((x + y : Nat) : Int) := by
  have e : (BitVec.ofInt 64 (x : Int) ||| BitVec.ofInt 64 (y : Int)).toNat = x + y := by
    rw [BitVec.toNat_or, BitVec.ofInt_natCast, BitVec.ofInt_natCast, BitVec.toNat_ofNat, BitVec.toNat_ofNat, Nat.mod_eq_of_lt (by omega), Nat.mod_eq_of_lt (by omega), or_add hy hx]
  rw [e, i64wrap] <;> omega
theorem i64shl (b : UInt8) (k m : Nat) (hm : 2 ^ k = m) (hk : m ≤ 16777216) : IntKind.i64.wrap ((b.toNat : Int) * (m : Int)) = ((b.toNat * m : Nat) : Int) := by
  have hb := b.toNat_lt
  have : b.toNat * m ≤ 255 * 16777216 := Nat.mul_le_mul (by omega) hk
  rw [← Int.natCast_mul, i64wrap] <;> omega
theorem word4 (a b c d : UInt8) : IntKind.i64.wrap ((BitVec.ofInt 64 (IntKind.i64.wrap ((BitVec.ofInt 64 (IntKind.i64.wrap ((BitVec.ofInt 64 (IntKind.i64.wrap ((a.toNat : Int) * 2 ^ min 24 64)) ||| BitVec.ofInt 64 (IntKind.i64.wrap ((b.toNat : Int) * 2 ^ min 16 64))).toNat : Int)) ||| BitVec.ofInt 64 (IntKind.i64.wrap ((c.toNat : Int) * 2 ^ min 8 64))).toNat : Int)) ||| BitVec.ofInt 64 (d.toNat : Int)).toNat : Int) = four [a, b, c, d] := by
  have ha := a.toNat_lt
  have hb := b.toNat_lt
  have hc := c.toNat_lt
  have hd := d.toNat_lt
  have e1 : (2 ^ min 24 64 : Int) = ((16777216 : Nat) : Int) := by decide
  have e2 : (2 ^ min 16 64 : Int) = ((65536 : Nat) : Int) := by decide
  have e3 : (2 ^ min 8 64 : Int) = ((256 : Nat) : Int) := by decide
  rw [e1, e2, e3, i64shl a 24 _ (by decide) (by decide), i64shl b 16 _ (by decide) (by decide), i64shl c 8 _ (by decide) (by decide)]
  rw [i64or (x := a.toNat * 16777216) (y := b.toNat * 65536) 24 (by omega) ⟨a.toNat, by omega⟩ (by omega)]
  rw [i64or (x := a.toNat * 16777216 + b.toNat * 65536) (y := c.toNat * 256) 16 (by omega) ⟨a.toNat * 256 + b.toNat, by omega⟩ (by omega)]
  rw [i64or (x := a.toNat * 16777216 + b.toNat * 65536 + c.toNat * 256) (y := d.toNat) 8 (by omega) ⟨a.toNat * 65536 + b.toNat * 256 + c.toNat, by omega⟩ (by omega)]
  simp only [four, List.getD_cons_zero, List.getD_cons_succ]; omega
theorem word_ph (h : Heap) {s p o vs q l e} (hI : In h s p o vs q l e) :
    @CallsH Tryd.prog 60 #[.pointer (some ⟨s, 0, none⟩)] h ⟨fun v h' => v = .int .i64 (four (takeS l e 4).bytes) ∧ ∃ o', In h' s p o' vs q (takeS l e 4).rest (takeS l e 4).e ∧ Keep h h' s⟩ := by
  (refine calls_of_vc [] hm Tryd.func60 rfl (ts := [2]) rfl (by kernel_rfl) (by simp) ?_; simp (config := { dsimp := false }) only [go_sem, reduceIte, Nat.reduceEqDiff, reduceCtorEq, Nat.reduceAdd, Nat.reduceMul, Int.reduceToNat, Int.reduceLE, Int.reduceLT, Int.reduceEq, Int.reduceNe, Nat.reduceLeDiff, Int.reducePow, Nat.reducePow, Nat.reduceLT, Nat.reduceSub, Nat.reduceMod, Nat.reduceDiv, T.ag_5, T.es_28, T.gf_64, T.ib_3, T.ii_3, T.ii_5, T.ip_3, T.s8_3, T.s8_5, T.sl_3, T.sl_5, T.st_3, T.st_5, T.un_3, T.un_5, init_a])
  refine (take_ph h hI 4 (by omega)).mono fun v h' ⟨o', h1, h2, h3⟩ => ?_
  obtain ⟨a, b, c, d, hl⟩ := len4 (take_len l e 4 (by omega))
  rw [hl] at h3 ⊢
  obtain ⟨p', o2, vs', q', rfl, hp, c0, c1, c2, c3⟩ := h3.four
  simp (config := { dsimp := false }) only [go_sem, reduceIte, Nat.reduceEqDiff, reduceCtorEq, Nat.reduceAdd, Nat.reduceMul, Int.reduceToNat, Int.reduceLE, Int.reduceLT, Int.reduceEq, Int.reduceNe, Nat.reduceLeDiff, Int.reducePow, Nat.reducePow, Nat.reduceLT, Nat.reduceSub, Nat.reduceMod, Nat.reduceDiv, T.ag_5, T.es_28, T.gf_64, T.ib_3, T.ii_3, T.ii_5, T.ip_3, T.s8_3, T.s8_5, T.sl_3, T.sl_5, T.st_3, T.st_5, T.un_3, T.un_5, hp, c0, c1, c2, c3]
  exact ⟨by omega, by omega, by omega, by omega, congrArg (Value.int .i64) (word4 a b c d), o', h1, h2⟩
end Ph
