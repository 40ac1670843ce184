import Derived.Test.YthagjeomcgphiaaDoorN43
set_option maxRecDepth 100000
set_option linter.unusedSimpArgs false
namespace Ph
open Go Go.Proofs
attribute [local irreducible] Value.cells
attribute [local go_sem ↓] s_move s_assign s_pick s_nil s_bin s_un s_fa s_field s_ext s_ia s_ix s_slice s_conv s_build s_bs s_mf s_alloc s_box s_load s_store s_len s_min s_max s_app s_call q_call q_move q_assign q_pick q_nil q_bin q_un q_fa q_field q_ext q_ia q_ix q_slice q_conv q_build q_mf q_load q_len q_min q_max l_nil l_move l_assign l_pick l_nilc l_bin l_un l_fa l_field l_ext l_ia l_ix l_slice l_conv l_build l_mf l_load l_len l_min l_max l_call put_eq putN_eq o_nil o_plain o_gate v_nil v_plain v_gate vc_skip vc_region vc_seq vc_cond vc_block vc_loop vc_exit vc_ret blk_normal blk_ret blk_exit on_normal on_ret on_exit vc_drawn draw_q s_mk l_bs l_mk l_alloc l_box l_store l_app pl_done pl_take pl_alt pl_stop one_plain one_gate
attribute [local go_sem] onAgg_a onTuple_t onFunc_f c_int c_nil c_sl c_str sl_sl sl_nil sl_str ix_str ix_agg n_nil n_sl n_str app_eq k_nil k_sl len_sl len_str upd_some upd_none ev_tmp ev_const ev_func rd_some gdst_eq otmp_t otmp_c get_put get_alloc next_put next_alloc get_app next_app init_a resV1 resV2 onPtr_ptr onBool_b onInt_i onSlice_s onSome_s onCells_c lett_eq gate_tt gate_tf gate_ff gate_ft gate_dt gate_df also_eq bin un minmax io_none io_some bo_none bo_some partOf List.getElem?_cons_zero List.getElem?_cons_succ List.getElem?_toArray Option.map_some Option.map_none Option.bind_some ne_eq not_true_eq_false not_false_eq_true false_implies true_implies and_true true_and and_self Bool.false_eq_true Nat.zero_add Nat.add_zero List.size_toArray List.length_cons List.length_nil List.map_toArray List.map_cons List.map_nil Array.getD_eq_getD_getElem? Option.getD_some Bool.not_true Bool.not_false Bool.not_eq_true Option.isNone_some Option.isNone_none List.append_toArray List.append_nil List.nil_append List.cons_append decide_true decide_false in_nil in_cons Bool.and_false Bool.and_true Bool.or_false Bool.true_or Bool.false_or get_mask next_mask get_unmask next_unmask ac_move ac_assign ac_pick ac_nil ac_bin ac_un ac_fa ac_field ac_ext ac_ia ac_ix ac_slice ac_build ac_mf ac_call ac_load ac_conv accP_p accS_s accS_n accS_i accS_t fixed_ro fixed_lock fixed_own get_ro next_ro lock_live' lock_cells List.mem_cons List.not_mem_nil or_false false_or or_true true_or and_false false_and IntKind.bits Int.natCast_zero Int.natCast_one size_str data_str list_str mk_str ext_str app_str bytes_str w_byte w_byteu Int.toNat_natCast Int.toNat_zero Int.toNat_one Nat.sub_zero ge_iff_le gt_iff_lt Nat.le_refl Int.le_refl List.drop_zero Int.ofNat_eq_natCast Int.natCast_nonneg Int.sub_zero oc_int oc_bool oc_str oc_ptr oc_sl oc_map oc_func List.set_cons_zero List.set_cons_succ Nat.mul_one List.all_cons List.all_nil Bool.and_self res_nil res_tmp res_cell tup_one tup_two tup_nil fill_nil repl_zero cells_agg List.append_eq List.toList_toArray Nat.zero_mul Nat.one_mul repl_one repl_two onSome_build fill_cons onSome_lit splice_eq cells_int cells_bool cells_str cells_ptr cells_sl cells_map cells_func loadK_n loadK_s load_k storeK_n storeK_s store_k all_arr List.take_zero List.take_succ_cons List.drop_succ_cons List.take_nil List.drop_nil lk_own lk_ro lk_lock lk_lk fixed_lk gate_nt gate_nf gate3_b gate3_u undef Bool.true_and Bool.false_and nx_l nx_r nx_lt
def vsize (l : List UInt8) : Nat := 2 ^ ((l.getD 0 0).toNat / 64)
def vnum (l : List UInt8) (k : Nat) : Nat := ((l.take k).drop 1).foldl (fun n b => n * 256 + b.toNat) ((l.getD 0 0).toNat % 64)
def vget (l : List UInt8) : Nat × Nat × Int := if l.length = 0 ∨ l.length < vsize l then (0, 0, 3) else (vnum l (vsize l), vsize l, 0)
theorem q64 {b : UInt8} : IntKind.i64.wrap ((b.toNat : Int).tdiv 64) = ((b.toNat / 64 : Nat) : Int) := by
  have := b.toNat_lt
  rw [Int.tdiv_eq_ediv_of_nonneg (by omega), i64wrap] <;> omega
theorem r64 {b : UInt8} : IntKind.u64.wrap ((b.toNat : Int).tmod 64) = ((b.toNat % 64 : Nat) : Int) := by
  have := b.toNat_lt
  rw [Int.tmod_eq_emod_of_nonneg (by omega), u64wrap] <;> omega
theorem fold_lt : ∀ (m : List UInt8) (n : Nat), m.foldl (fun n b => n * 256 + b.toNat) n < (n + 1) * 256 ^ m.length
  | [], n => by simp
  | b :: m, n => by
    have h := fold_lt m (n * 256 + b.toNat)
    have hb := b.toNat_lt
    simp only [List.foldl_cons, List.length_cons, Nat.pow_succ]
    refine Nat.lt_of_lt_of_le h ?_
    rw [Nat.mul_comm (256 ^ m.length) 256, ← Nat.mul_assoc]
    exact Nat.mul_le_mul_right _ (by omega)
theorem vnum_lt (l : List UInt8) (k : Nat) (hk : 1 ≤ k) : vnum l k < 64 * 256 ^ (k - 1) := by
  have h := fold_lt ((l.take k).drop 1) ((l.getD 0 0).toNat % 64)
  refine Nat.lt_of_lt_of_le h ?_
  refine Nat.mul_le_mul (by omega) (Nat.pow_le_pow_right (by omega) ?_)
  simp; omega
theorem vnum_succ {l : List UInt8} {k : Nat} (h1 : 1 ≤ k) (hk : k < l.length) : vnum l (k + 1) = vnum l k * 256 + (l.getD k 0).toNat := by
  simp only [vnum]
  rw [take_step hk, List.drop_append_of_le_length (by simp; omega), List.foldl_append]; rfl
theorem vsize_le (l : List UInt8) : vsize l ≤ 8 ∧ 1 ≤ vsize l := by
  have := (l.getD 0 0).toNat_lt
  unfold vsize
  have h : (l.getD 0 0).toNat / 64 ≤ 3 := by omega
  generalize (l.getD 0 0).toNat / 64 = q at h ⊢
  match q, h with
  | 0, _ => decide
  | 1, _ => decide
  | 2, _ => decide
  | 3, _ => decide
theorem Get44_ph (l : List UInt8) (hl : l.length < 9223372036854775807) (h : Heap) : @CallsH Tryd.prog 44 #[.string (str l)] h ⟨fun v _ => v = .tuple #[.int .u64 (vget l).1, .int .i64 (vget l).2.1, .int .i64 (vget l).2.2]⟩ := by
  (refine calls_of_vc [] hm Tryd.func44 rfl (ts := [2, 3, 4]) rfl (by kernel_rfl) (by simp) ?_; simp (config := { dsimp := false }) only [go_sem, reduceIte, Nat.reduceEqDiff, reduceCtorEq, Nat.reduceAdd, Nat.reduceMul, Int.reduceToNat, Int.reduceLE, Int.reduceLT, Int.reduceEq, Int.reduceNe, Nat.reduceLeDiff, Int.reducePow, Nat.reducePow, Nat.reduceLT, Nat.reduceSub, Nat.reduceMod, Nat.reduceDiv, T.es_9, T.ib_3, T.ib_35, T.ib_5, T.ib_9, T.ii_3, T.ii_35, T.ii_5, T.ii_9, T.ip_3, T.ip_35, T.ip_5, T.ip_9, T.s8_3, T.s8_35, T.s8_5, T.s8_9, T.sl_3, T.sl_35, T.sl_5, T.sl_9, T.st_3, T.st_35, T.st_5, T.st_9, T.un_3, T.un_35, T.un_5, T.un_9, init_a])
  refine ⟨fun he => ?_, fun hne => ?_⟩
  · have : l = [] := by simpa using he
    subst this; rfl
  · have hp : 0 < l.length := by cases l <;> simp at hne ⊢
    refine loop_intro [] hm (fun r h' => ∃ i, i ≤ (l.getD 0 0).toNat / 64 ∧ r 0 = .string (str l) ∧ r 5 = .int .i64 (2 ^ i : Nat) ∧ r 6 = .int .i64 (i : Nat)) (fun r _ => match r 6 with | .int _ i => 4 - i.toNat | _ => 0) ?_ ?_
    · exact ⟨0, by omega, by simp [upd, initR], by simp [upd], by simp [upd]⟩
    · rintro r h ⟨i, h0, h1, h2, h3⟩
      have hs := vsize_le l
      have hb := (l.getD 0 0).toNat_lt
      simp (config := { dsimp := false }) only [go_sem, reduceIte, Nat.reduceEqDiff, reduceCtorEq, Nat.reduceAdd, Nat.reduceMul, Int.reduceToNat, Int.reduceLE, Int.reduceLT, Int.reduceEq, Int.reduceNe, Nat.reduceLeDiff, Int.reducePow, Nat.reducePow, Nat.reduceLT, Nat.reduceSub, Nat.reduceMod, Nat.reduceDiv, T.es_9, T.ib_3, T.ib_35, T.ib_5, T.ib_9, T.ii_3, T.ii_35, T.ii_5, T.ii_9, T.ip_3, T.ip_35, T.ip_5, T.ip_9, T.s8_3, T.s8_35, T.s8_5, T.s8_9, T.sl_3, T.sl_35, T.sl_5, T.sl_9, T.st_3, T.st_35, T.st_5, T.st_9, T.un_3, T.un_35, T.un_5, T.un_9, h1, h2, h3, q64]
      have hq : (l.getD 0 0).toNat / 64 ≤ 3 := by omega
      have hp2 : 2 ^ i ≤ 8 := by
        have : i ≤ 3 := by omega
        match i, this with
        | 0, _ => decide
        | 1, _ => decide
        | 2, _ => decide
        | 3, _ => decide
      have e1 : IntKind.i64.wrap ((i : Int) + 1) = ((i + 1 : Nat) : Int) := by rw [i64wrap] <;> omega
      have e2 : IntKind.i64.wrap (2 * ((2 ^ i : Nat) : Int)) = ((2 ^ (i + 1) : Nat) : Int) := by
        rw [Nat.pow_succ]; generalize 2 ^ i = q at hp2 ⊢; rw [i64wrap] <;> omega
      refine ⟨by omega, fun hi => ⟨⟨i + 1, by omega, by rw [e2], by rw [e1]⟩, by rw [e1]; omega⟩, fun hi => ?_⟩
      have hi' : i = (l.getD 0 0).toNat / 64 := by omega
      have hv : 2 ^ i = vsize l := by rw [hi']; rfl
      rw [hv]
      refine ⟨fun hlt => ?_, fun hge => ⟨by omega, ?_⟩⟩
      · rw [vget, if_pos (by omega)]; rfl
      · have hge' : vsize l ≤ l.length := by omega
        refine loop_intro [] hm (fun r h' => ∃ i, 1 ≤ i ∧ i ≤ vsize l ∧ r 0 = .string (str l) ∧ r 5 = .int .i64 (vsize l : Nat) ∧ r 7 = .int .u64 (vnum l i : Nat) ∧ r 8 = .int .i64 (i : Nat)) (fun r _ => match r 8 with | .int _ i => 8 - i.toNat | _ => 0) ?_ ?_
        · refine ⟨1, by omega, by omega, by simp [upd, h1], by simp [upd, h2, hv], ?_, by simp [upd]⟩
          have : vnum l 1 = (l.getD 0 0).toNat % 64 := by
            have : (l.take 1).drop 1 = [] := by simp
            simp only [vnum, this, List.foldl_nil]
          simp only [upd, this, r64]; rfl
        · rintro r h ⟨i, g0, g1, h1, h2, h3, h4⟩
          simp (config := { dsimp := false }) only [go_sem, reduceIte, Nat.reduceEqDiff, reduceCtorEq, Nat.reduceAdd, Nat.reduceMul, Int.reduceToNat, Int.reduceLE, Int.reduceLT, Int.reduceEq, Int.reduceNe, Nat.reduceLeDiff, Int.reducePow, Nat.reducePow, Nat.reduceLT, Nat.reduceSub, Nat.reduceMod, Nat.reduceDiv, T.es_9, T.ib_3, T.ib_35, T.ib_5, T.ib_9, T.ii_3, T.ii_35, T.ii_5, T.ii_9, T.ip_3, T.ip_35, T.ip_5, T.ip_9, T.s8_3, T.s8_35, T.s8_5, T.s8_9, T.sl_3, T.sl_35, T.sl_5, T.sl_9, T.st_3, T.st_35, T.st_5, T.st_9, T.un_3, T.un_35, T.un_5, T.un_9, h1, h2, h3, h4]
          have e1 : IntKind.i64.wrap ((i : Int) + 1) = ((i + 1 : Nat) : Int) := by rw [i64wrap] <;> omega
          refine ⟨fun hlt => ?_, fun hge => ?_⟩
          · have hlt' : i < vsize l := by omega
            have hb := (l.getD i 0).toNat_lt
            have hn : vnum l i < 64 * 256 ^ 6 := Nat.lt_of_lt_of_le (vnum_lt l i g0) (Nat.mul_le_mul_left _ (Nat.pow_le_pow_right (by omega) (by omega)))
            have e3 : IntKind.u64.wrap (IntKind.u64.wrap ((vnum l i : Int) * 256) + ((l.getD i 0).toNat : Int)) = ((vnum l (i + 1) : Nat) : Int) := by
              rw [vnum_succ g0 (by omega), u64wrap (x := (vnum l i : Int) * 256), u64wrap] <;> omega
            exact ⟨by omega, ⟨i + 1, by omega, by omega, by rw [e3], by rw [e1]⟩, by rw [e1]; omega⟩
          · have : i = vsize l := by omega
            subst this
            rw [vget, if_neg (by omega)]
end Ph
