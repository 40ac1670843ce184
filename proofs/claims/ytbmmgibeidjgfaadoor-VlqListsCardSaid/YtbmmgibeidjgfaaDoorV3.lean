import Derived.Test.YtbmmgibeidjgfaaDoorV2
set_option maxRecDepth 100000
set_option maxHeartbeats 4000000
set_option linter.unusedSimpArgs false
set_option linter.unusedVariables false
namespace Ph
open Go Go.Proofs
attribute [local irreducible] Value.cells
attribute [local go_sem ↓] y_move y_assign y_pick y_nil y_bin y_un y_fa y_field y_ext y_ia y_ix y_slice y_build y_mf y_load y_len y_min y_max y_conv y_bs y_mk y_alloc y_box y_store y_clear y_app y_callf y_callt s_move s_assign s_pick s_nil s_bin s_un s_fa s_field s_ext s_ia s_ix s_slice s_conv s_build s_bs s_mf s_alloc s_box s_load s_store s_len s_clear s_min s_max s_app s_call q_call q_move q_assign q_pick q_nil q_bin q_un q_fa q_field q_ext q_ia q_ix q_slice q_conv q_build q_mf q_load q_len q_min q_max l_nil l_move l_assign l_pick l_nilc l_bin l_un l_fa l_field l_ext l_ia l_ix l_slice l_conv l_build l_mf l_load l_len l_min l_max l_call put_eq putN_eq o_nil o_plain o_gate v_nil v_plain v_gate vc_skip vc_region vc_seq vc_cond vc_block vc_loop vc_rf vc_exit vc_ret blk_normal blk_ret blk_exit on_normal on_ret on_exit vc_drawn draw_q s_mk l_bs l_mk l_alloc l_box l_store l_app l_clear pl_done pl_takeS pl_take pl_alt pl_stop one_plain one_gate
attribute [local go_sem] clear_nil clear_sl onAgg_a onTuple_t onFn_f onFn_y onFunc_f c_int c_nil c_sl c_str sl_sl sl_nil sl_str ix_str ix_agg n_nil n_sl n_str app_eq k_nil k_sl len_sl len_str upd_some upd_none ev_tmp ev_const ev_func rd_some gdst_eq otmp_t otmp_c get_put get_alloc next_put next_alloc get_app next_app init_a resV1 resV2 onPtr_ptr onBool_b onInt_i onSlice_s onSome_s onCells_c lett_eq gate_tt gate_tf gate_ff gate_ft gate_dt gate_df also_eq bin un minmax io_none io_some bo_none bo_some partOf List.getElem?_cons_zero List.getElem?_cons_succ List.getElem?_toArray Option.map_some Option.map_none Option.bind_some ne_eq not_true_eq_false not_false_eq_true false_implies true_implies and_true true_and and_self Bool.false_eq_true Nat.zero_add Nat.add_zero List.size_toArray List.length_cons List.length_nil List.map_toArray List.map_cons List.map_nil Array.getD_eq_getD_getElem? Option.getD_some Bool.not_true Bool.not_false Bool.not_eq_true Option.isNone_some Option.isNone_none List.append_toArray List.append_nil List.nil_append List.cons_append decide_true decide_false in_nil in_cons Bool.and_false Bool.and_true Bool.or_false Bool.true_or Bool.false_or get_mask next_mask get_unmask next_unmask ac_move ac_assign ac_pick ac_nil ac_bin ac_un ac_fa ac_field ac_ext ac_ia ac_ix ac_slice ac_build ac_mf ac_call ac_load ac_conv accP_p accS_s accS_n accS_i accS_t fixed_ro fixed_lock fixed_own get_ro next_ro lock_live' lock_cells List.mem_cons List.not_mem_nil or_false false_or or_true true_or and_false false_and IntKind.bits Int.natCast_zero Int.natCast_one size_str data_str list_str mk_str ext_str app_str bytes_str w_byte w_byteu Int.toNat_natCast Int.toNat_zero Int.toNat_one Nat.sub_zero ge_iff_le gt_iff_lt Nat.le_refl Int.le_refl List.drop_zero Int.ofNat_eq_natCast Int.natCast_nonneg Int.sub_zero oc_int oc_bool oc_str oc_ptr oc_sl oc_map oc_func List.set_cons_zero List.set_cons_succ Nat.mul_one List.all_cons List.all_nil Bool.and_self res_nil res_tmp res_cell tup_one tup_two tup_nil fill_nil repl_zero cells_agg List.append_eq List.toList_toArray Nat.zero_mul Nat.one_mul repl_one repl_two onSome_build fill_cons onSome_lit splice_eq cells_int cells_bool cells_str cells_ptr cells_sl cells_map cells_func loadK_n loadK_s load_k storeK_n storeK_s store_k all_arr List.take_zero List.take_succ_cons List.drop_succ_cons List.take_nil List.drop_nil lk_own lk_ro lk_lock lk_lk fixed_lk gate_nt gate_nf gate3_b gate3_u undef Bool.true_and Bool.false_and nx_l nx_r nx_lt put_put resV0
/-! The document's Put. -/
theorem Most_ph (sz : Nat) (hs : okSz sz) (h : Heap) : @CallsH Tryd.prog 18 #[.int .i64 sz] h ⟨fun u _ => u = .int .u64 (top sz)⟩ := by
  rcases hs with e | e | e | e
  · have c1 : ((sz : Int) = 1) = True := eq_true (by omega)
    (refine calls_of_vc [] hm Tryd.func18 rfl (ts := [2]) rfl (by kernel_rfl) (by simp) ?_; simp (config := { dsimp := false }) only [go_sem, reduceIte, Nat.reduceEqDiff, reduceCtorEq, Nat.reduceAdd, Nat.reduceMul, Int.reduceToNat, Int.reduceLE, Int.reduceLT, Int.reduceEq, Int.reduceNe, Nat.reduceLeDiff, Int.reducePow, Nat.reducePow, Nat.reduceLT, Nat.reduceSub, Nat.reduceMod, Nat.reduceDiv, T.ib_3, T.ip_3, init_a, c1])
    rw [e]; rfl
  · have c1 : ((sz : Int) = 1) = False := eq_false (by omega)
    have c2 : ((sz : Int) = 2) = True := eq_true (by omega)
    (refine calls_of_vc [] hm Tryd.func18 rfl (ts := [2]) rfl (by kernel_rfl) (by simp) ?_; simp (config := { dsimp := false }) only [go_sem, reduceIte, Nat.reduceEqDiff, reduceCtorEq, Nat.reduceAdd, Nat.reduceMul, Int.reduceToNat, Int.reduceLE, Int.reduceLT, Int.reduceEq, Int.reduceNe, Nat.reduceLeDiff, Int.reducePow, Nat.reducePow, Nat.reduceLT, Nat.reduceSub, Nat.reduceMod, Nat.reduceDiv, T.ib_3, T.ip_3, init_a, c1, c2])
    rw [e]; rfl
  · have c1 : ((sz : Int) = 1) = False := eq_false (by omega)
    have c2 : ((sz : Int) = 2) = False := eq_false (by omega)
    have c3 : ((sz : Int) = 4) = True := eq_true (by omega)
    (refine calls_of_vc [] hm Tryd.func18 rfl (ts := [2]) rfl (by kernel_rfl) (by simp) ?_; simp (config := { dsimp := false }) only [go_sem, reduceIte, Nat.reduceEqDiff, reduceCtorEq, Nat.reduceAdd, Nat.reduceMul, Int.reduceToNat, Int.reduceLE, Int.reduceLT, Int.reduceEq, Int.reduceNe, Nat.reduceLeDiff, Int.reducePow, Nat.reducePow, Nat.reduceLT, Nat.reduceSub, Nat.reduceMod, Nat.reduceDiv, T.ib_3, T.ip_3, init_a, c1, c2, c3])
    rw [e]; rfl
  · have c1 : ((sz : Int) = 1) = False := eq_false (by omega)
    have c2 : ((sz : Int) = 2) = False := eq_false (by omega)
    have c3 : ((sz : Int) = 4) = False := eq_false (by omega)
    have c4 : ((sz : Int) = 8) = True := eq_true (by omega)
    (refine calls_of_vc [] hm Tryd.func18 rfl (ts := [2]) rfl (by kernel_rfl) (by simp) ?_; simp (config := { dsimp := false }) only [go_sem, reduceIte, Nat.reduceEqDiff, reduceCtorEq, Nat.reduceAdd, Nat.reduceMul, Int.reduceToNat, Int.reduceLE, Int.reduceLT, Int.reduceEq, Int.reduceNe, Nat.reduceLeDiff, Int.reducePow, Nat.reducePow, Nat.reduceLT, Nat.reduceSub, Nat.reduceMod, Nat.reduceDiv, T.ib_3, T.ip_3, init_a, c1, c2, c3, c4])
    rw [e]; rfl
theorem repl_bc (n : Nat) : repl n [Value.int .u8 0] = bc (List.replicate n 0) := by
  induction n with
  | zero => rfl
  | succ n ih => rw [List.replicate_succ, show repl (n + 1) [Value.int .u8 0] = [Value.int .u8 0] ++ repl n [Value.int .u8 0] from rfl, ih]; rfl
theorem bc_set (l : List UInt8) (i : Nat) (b : UInt8) : (bc l).set i (.int .u8 (b.toNat : Int)) = bc (l.set i b) := by
  unfold bc; rw [List.map_set]
def putW (n sz : Nat) : Value := if n < top sz then .tuple #[.string (str (vputS n sz)), .int .i64 0] else .tuple #[.string (str []), .int .i64 5]
theorem PutInR_ph (n sz : Nat) (hs : okSz sz) (hn : n < 18446744073709551616) (h : Heap) : @CallsH Tryd.prog 11 #[.int .u64 n, .int .i64 sz] h ⟨fun w _ => w = putW n sz⟩ := by
  have hsz : 1 ≤ sz ∧ sz ≤ 8 := by rcases hs with rfl | rfl | rfl | rfl <;> omega
  have htop : 64 ≤ top sz ∧ top sz ≤ 4611686018427387904 := by rcases hs with rfl | rfl | rfl | rfl <;> decide
  have t0 : ((top sz : Int) = 0) = False := eq_false (by omega)
  (refine calls_of_vc [] hm Tryd.func11 rfl (ts := [4, 5]) rfl (by kernel_rfl) (by simp) ?_; simp (config := { dsimp := false }) only [go_sem, reduceIte, Nat.reduceEqDiff, reduceCtorEq, Nat.reduceAdd, Nat.reduceMul, Int.reduceToNat, Int.reduceLE, Int.reduceLT, Int.reduceEq, Int.reduceNe, Nat.reduceLeDiff, Int.reducePow, Nat.reducePow, Nat.reduceLT, Nat.reduceSub, Nat.reduceMod, Nat.reduceDiv, T.ag_5, T.eb_23, T.es_23, T.ez_23, T.gf_18, T.ib_27, T.ib_3, T.ib_5, T.ii_23, T.ii_27, T.ii_3, T.ii_5, T.ii_9, T.ip_27, T.ip_3, T.ip_5, T.s8_23, T.s8_27, T.s8_3, T.s8_5, T.s8_9, T.sl_23, T.sl_27, T.sl_3, T.sl_5, T.sl_9, T.st_23, T.st_27, T.st_3, T.st_5, T.st_9, T.un_23, T.un_27, T.un_3, T.un_5, T.un_9, init_a])
  refine CallsH.pure _ rfl (Most_ph sz hs _) ?_
  simp (config := { dsimp := false }) only [go_sem, reduceIte, Nat.reduceEqDiff, reduceCtorEq, Nat.reduceAdd, Nat.reduceMul, Int.reduceToNat, Int.reduceLE, Int.reduceLT, Int.reduceEq, Int.reduceNe, Nat.reduceLeDiff, Int.reducePow, Nat.reducePow, Nat.reduceLT, Nat.reduceSub, Nat.reduceMod, Nat.reduceDiv, T.ag_5, T.eb_23, T.es_23, T.ez_23, T.gf_18, T.ib_27, T.ib_3, T.ib_5, T.ii_23, T.ii_27, T.ii_3, T.ii_5, T.ii_9, T.ip_27, T.ip_3, T.ip_5, T.s8_23, T.s8_27, T.s8_3, T.s8_5, T.s8_9, T.sl_23, T.sl_27, T.sl_3, T.sl_5, T.sl_9, T.st_23, T.st_27, T.st_3, T.st_5, T.st_9, T.un_23, T.un_27, T.un_3, T.un_5, T.un_9, t0]
  refine CallsH.pure _ rfl (Most_ph sz hs _) ?_
  by_cases hf : n < top sz
  · have d1 : ((top sz : Int) ≤ (n : Int)) = False := eq_false (by omega)
    simp (config := { dsimp := false }) only [go_sem, reduceIte, Nat.reduceEqDiff, reduceCtorEq, Nat.reduceAdd, Nat.reduceMul, Int.reduceToNat, Int.reduceLE, Int.reduceLT, Int.reduceEq, Int.reduceNe, Nat.reduceLeDiff, Int.reducePow, Nat.reducePow, Nat.reduceLT, Nat.reduceSub, Nat.reduceMod, Nat.reduceDiv, T.ag_5, T.eb_23, T.es_23, T.ez_23, T.gf_18, T.ib_27, T.ib_3, T.ib_5, T.ii_23, T.ii_27, T.ii_3, T.ii_5, T.ii_9, T.ip_27, T.ip_3, T.ip_5, T.s8_23, T.s8_27, T.s8_3, T.s8_5, T.s8_9, T.sl_23, T.sl_27, T.sl_3, T.sl_5, T.sl_9, T.st_23, T.st_27, T.st_3, T.st_5, T.st_9, T.un_23, T.un_27, T.un_3, T.un_5, T.un_9, d1]
    refine ⟨⟨by omega, by omega⟩, ?_⟩
    have w0 : IntKind.i64.wrap ((sz : Int) - 1) = (sz : Int) - 1 := i64wrap (by omega) (by omega)
    refine loop_intro [] hm (fun r H => ∃ i k : Nat, i + k = sz ∧ H.get h.next = .live (.cells (bc (List.replicate i 0 ++ lowS n k)) .own) ∧ r 0 = .int .u64 ((n / 256 ^ k : Nat) : Int) ∧ r 1 = .int .i64 sz ∧ r 6 = .slice (some ⟨h.next, 0, none⟩) sz 1 ∧ r 7 = .int .i64 ((i : Int) - 1)) (fun r _ => match r 7 with | .int _ x => (x + 1).toNat | _ => 0) ?_ ?_
    · exact ⟨sz, 0, by omega, by rw [get_alloc, if_pos rfl, repl_bc]; simp [lowS], by simp [upd, initR], by simp [upd, initR], by simp [upd], by simp [upd, w0]⟩
    · rintro r H ⟨i, k, hik, hg, q0, q1, q6, q7⟩
      rcases Nat.eq_zero_or_pos i with hi0 | hi0
      · obtain rfl : k = sz := by omega
        have hz : (0 ≤ (i : Int) - 1) = False := eq_false (by omega)
        rw [hi0, List.replicate_zero, List.nil_append] at hg
        simp (config := { dsimp := false }) only [go_sem, reduceIte, Nat.reduceEqDiff, reduceCtorEq, Nat.reduceAdd, Nat.reduceMul, Int.reduceToNat, Int.reduceLE, Int.reduceLT, Int.reduceEq, Int.reduceNe, Nat.reduceLeDiff, Int.reducePow, Nat.reducePow, Nat.reduceLT, Nat.reduceSub, Nat.reduceMod, Nat.reduceDiv, T.ag_5, T.eb_23, T.es_23, T.ez_23, T.gf_18, T.ib_27, T.ib_3, T.ib_5, T.ii_23, T.ii_27, T.ii_3, T.ii_5, T.ii_9, T.ip_27, T.ip_3, T.ip_5, T.s8_23, T.s8_27, T.s8_3, T.s8_5, T.s8_9, T.sl_23, T.sl_27, T.sl_3, T.sl_5, T.sl_9, T.st_23, T.st_27, T.st_3, T.st_5, T.st_9, T.un_23, T.un_27, T.un_3, T.un_5, T.un_9, q0, q1, q6, q7, hz]
        refine loop_intro [] hm (fun r H => ∃ j : Nat, j ≤ lg k ∧ H.get h.next = .live (.cells (bc (lowS n k)) .own) ∧ r 1 = .int .i64 k ∧ r 6 = .slice (some ⟨h.next, 0, none⟩) k 1 ∧ r 8 = .int .i64 j) (fun r _ => match r 8 with | .int _ x => 4 - x.toNat | _ => 0) ?_ ?_
        · exact ⟨0, by omega, hg, by simp [upd, q1], by simp [upd, q6], by simp [upd]⟩
        · clear q0 q1 q6 q7 hg
          rintro r H ⟨j, hj, hg, q1, q6, q8⟩
          have hl3 : lg k ≤ 3 := by rcases hs with rfl | rfl | rfl | rfl <;> decide
          have hp : (0 ≤ (j : Int)) = True := eq_true (by omega)
          have e2 : IntKind.i64.wrap (1 * 2 ^ min j 64) = ((2 ^ j : Nat) : Int) := by
            have : j = 0 ∨ j = 1 ∨ j = 2 ∨ j = 3 := by omega
            rcases this with rfl | rfl | rfl | rfl <;> decide
          have w1 : IntKind.i64.wrap ((j : Int) + 1) = ((j + 1 : Nat) : Int) := by rw [i64wrap] <;> omega
          by_cases hjl : j < lg k
          · have c1 : (((2 ^ j : Nat) : Int) < (k : Int)) = True := eq_true (by
              have : 2 ^ j < k := by
                rcases hs with rfl | rfl | rfl | rfl
                · simp [lg] at hjl
                · have : j = 0 := by simp [lg] at hjl; omega
                  subst this; decide
                · have : j = 0 ∨ j = 1 := by simp [lg] at hjl; omega
                  rcases this with rfl | rfl <;> decide
                · have : j = 0 ∨ j = 1 ∨ j = 2 := by simp [lg] at hjl; omega
                  rcases this with rfl | rfl | rfl <;> decide
              omega)
            simp (config := { dsimp := false }) only [go_sem, reduceIte, Nat.reduceEqDiff, reduceCtorEq, Nat.reduceAdd, Nat.reduceMul, Int.reduceToNat, Int.reduceLE, Int.reduceLT, Int.reduceEq, Int.reduceNe, Nat.reduceLeDiff, Int.reducePow, Nat.reducePow, Nat.reduceLT, Nat.reduceSub, Nat.reduceMod, Nat.reduceDiv, T.ag_5, T.eb_23, T.es_23, T.ez_23, T.gf_18, T.ib_27, T.ib_3, T.ib_5, T.ii_23, T.ii_27, T.ii_3, T.ii_5, T.ii_9, T.ip_27, T.ip_3, T.ip_5, T.s8_23, T.s8_27, T.s8_3, T.s8_5, T.s8_9, T.sl_23, T.sl_27, T.sl_3, T.sl_5, T.sl_9, T.st_23, T.st_27, T.st_3, T.st_5, T.st_9, T.un_23, T.un_27, T.un_3, T.un_5, T.un_9, q1, q6, q8, hp, e2, c1, w1]
            exact ⟨⟨j + 1, hjl, hg, rfl⟩, by omega⟩
          · have hje : j = lg k := by omega
            have c1 : (((2 ^ j : Nat) : Int) < (k : Int)) = False := eq_false (by
              have : 2 ^ j = k := by rw [hje]; rcases hs with rfl | rfl | rfl | rfl <;> decide
              omega)
            obtain ⟨k2, hk2⟩ : ∃ k2, k = k2 + 1 := ⟨k - 1, by omega⟩
            have hb0 : (bc (lowS n k))[0]? = some (.int .u8 ((UInt8.ofNat (n / 256 ^ k2)).toNat : Int)) := by rw [hk2]; rfl
            have hq : n / 256 ^ k2 < 64 := by
              have : n < 64 * 256 ^ k2 := by rw [hk2] at hf; simpa [top] using hf
              exact (Nat.div_lt_iff_lt_mul (Nat.pow_pos (by decide))).2 this
            have hvp : vputS n k = UInt8.ofNat (n / 256 ^ k2 + 64 * j) :: lowS n k2 := by
              rw [hje, vputS, hk2, top, Nat.add_sub_cancel, low_top]
            obtain ⟨X, hX⟩ : ∃ X, n / 256 ^ k2 = X := ⟨_, rfl⟩
            rw [hX] at hq hb0 hvp
            have e5 : IntKind.u8.wrap (((UInt8.ofNat X).toNat : Int) + IntKind.u8.wrap (IntKind.i64.wrap (64 * (j : Int)))) = ((UInt8.ofNat (X + 64 * j)).toNat : Int) := by
              rw [i64wrap (x := 64 * (j : Int)) (by omega) (by omega), u8wrap (x := 64 * (j : Int)) (by omega) (by omega), UInt8.toNat_ofNat', UInt8.toNat_ofNat', u8wrap (by omega) (by omega)]
              omega
            have hset : (bc (lowS n k)).set 0 (.int .u8 ((UInt8.ofNat (X + 64 * j)).toNat : Int)) = bc (vputS n k) := by
              rw [bc_set, hvp, hk2]; rfl
            have hk0 : (0 < (k : Int)) = True := eq_true (by omega)
            have hln : (0 < (bc (lowS n k)).length) = True := eq_true (by rw [bc_len, lowS_len]; omega)
            have hln2 : (k ≤ (bc (vputS n k)).length) = True := eq_true (by rw [bc_len, vputS_len]; exact Nat.le_refl _)
            have ht : List.take k (bc (vputS n k)) = bc (vputS n k) := List.take_of_length_le (by rw [bc_len, vputS_len]; exact Nat.le_refl _)
            simp (config := { dsimp := false }) only [go_sem, reduceIte, Nat.reduceEqDiff, reduceCtorEq, Nat.reduceAdd, Nat.reduceMul, Int.reduceToNat, Int.reduceLE, Int.reduceLT, Int.reduceEq, Int.reduceNe, Nat.reduceLeDiff, Int.reducePow, Nat.reducePow, Nat.reduceLT, Nat.reduceSub, Nat.reduceMod, Nat.reduceDiv, T.ag_5, T.eb_23, T.es_23, T.ez_23, T.gf_18, T.ib_27, T.ib_3, T.ib_5, T.ii_23, T.ii_27, T.ii_3, T.ii_5, T.ii_9, T.ip_27, T.ip_3, T.ip_5, T.s8_23, T.s8_27, T.s8_3, T.s8_5, T.s8_9, T.sl_23, T.sl_27, T.sl_3, T.sl_5, T.sl_9, T.st_23, T.st_27, T.st_3, T.st_5, T.st_9, T.un_23, T.un_27, T.un_3, T.un_5, T.un_9, q1, q6, q8, hp, e2, c1, hg, hb0, e5, hset, hk0, hln, hln2, ht, bc_val]
            rw [putW, if_pos hf]
      · obtain ⟨i, rfl⟩ : ∃ i2, i = i2 + 1 := ⟨i - 1, by omega⟩
        have e1 : ((i + 1 : Nat) : Int) - 1 = (i : Int) := by omega
        have hz2 : (0 ≤ (i : Int)) = True := eq_true (by omega)
        have hlt : ((i : Int) < (sz : Int)) = True := eq_true (by omega)
        rw [e1] at q7
        have hX2 : n / 256 ^ (k + 1) = n / 256 ^ k / 256 := by rw [Nat.pow_succ, Nat.div_div_eq_div_mul]
        have hset : (bc (List.replicate (i + 1) 0 ++ lowS n k)).set i (.int .u8 ((UInt8.ofNat (n / 256 ^ k)).toNat : Int)) = bc (List.replicate i 0 ++ lowS n (k + 1)) := by rw [bc_set, low_set]
        have hbl : (bc (List.replicate (i + 1) 0 ++ lowS n k)).length = sz := by rw [bc_len, List.length_append, List.length_replicate, lowS_len]; omega
        have hXn : n / 256 ^ k ≤ n := Nat.div_le_self _ _
        obtain ⟨X, hX⟩ : ∃ X, n / 256 ^ k = X := ⟨_, rfl⟩
        rw [hX] at hset hX2 hXn q0
        have w4 : IntKind.u8.wrap ((X : Int).tmod 256) = ((UInt8.ofNat X).toNat : Int) := by
          rw [Int.tmod_eq_emod_of_nonneg (by omega), u8wrap (by omega) (by omega), UInt8.toNat_ofNat']; omega
        have w5 : IntKind.u64.wrap ((X : Int).tdiv 256) = ((n / 256 ^ (k + 1) : Nat) : Int) := by
          rw [hX2, Int.tdiv_eq_ediv_of_nonneg (by omega), u64wrap (by omega) (by omega)]; omega
        have w6 : IntKind.i64.wrap ((i : Int) - 1) = (i : Int) - 1 := i64wrap (by omega) (by omega)
        simp (config := { dsimp := false }) only [go_sem, reduceIte, Nat.reduceEqDiff, reduceCtorEq, Nat.reduceAdd, Nat.reduceMul, Int.reduceToNat, Int.reduceLE, Int.reduceLT, Int.reduceEq, Int.reduceNe, Nat.reduceLeDiff, Int.reducePow, Nat.reducePow, Nat.reduceLT, Nat.reduceSub, Nat.reduceMod, Nat.reduceDiv, T.ag_5, T.eb_23, T.es_23, T.ez_23, T.gf_18, T.ib_27, T.ib_3, T.ib_5, T.ii_23, T.ii_27, T.ii_3, T.ii_5, T.ii_9, T.ip_27, T.ip_3, T.ip_5, T.s8_23, T.s8_27, T.s8_3, T.s8_5, T.s8_9, T.sl_23, T.sl_27, T.sl_3, T.sl_5, T.sl_9, T.st_23, T.st_27, T.st_3, T.st_5, T.st_9, T.un_23, T.un_27, T.un_3, T.un_5, T.un_9, q0, q1, q6, q7, hz2, hlt, hg, w4, w5, w6, hset]
        exact ⟨by rw [hbl]; omega, ⟨i, k + 1, by omega, rfl, rfl, rfl⟩, by omega⟩
  · have d1 : ((top sz : Int) ≤ (n : Int)) = True := eq_true (by omega)
    simp (config := { dsimp := false }) only [go_sem, reduceIte, Nat.reduceEqDiff, reduceCtorEq, Nat.reduceAdd, Nat.reduceMul, Int.reduceToNat, Int.reduceLE, Int.reduceLT, Int.reduceEq, Int.reduceNe, Nat.reduceLeDiff, Int.reducePow, Nat.reducePow, Nat.reduceLT, Nat.reduceSub, Nat.reduceMod, Nat.reduceDiv, T.ag_5, T.eb_23, T.es_23, T.ez_23, T.gf_18, T.ib_27, T.ib_3, T.ib_5, T.ii_23, T.ii_27, T.ii_3, T.ii_5, T.ii_9, T.ip_27, T.ip_3, T.ip_5, T.s8_23, T.s8_27, T.s8_3, T.s8_5, T.s8_9, T.sl_23, T.sl_27, T.sl_3, T.sl_5, T.sl_9, T.st_23, T.st_27, T.st_3, T.st_5, T.st_9, T.un_23, T.un_27, T.un_3, T.un_5, T.un_9, d1]
    all_goals rw [putW, if_neg hf]
theorem PutR_ph (n : Nat) (hn : n < 18446744073709551616) (h : Heap) : @CallsH Tryd.prog 6 #[.int .u64 n] h ⟨fun w _ => w = if n < 4611686018427387904 then .tuple #[.string (str (vputS n (vsz n))), .int .i64 0] else .tuple #[.string (str []), .int .i64 5]⟩ := by
  have pl : ∀ sz, plain (putW n sz) = true := fun sz => by unfold putW; split <;> rfl
  (refine calls_of_vc [] hm Tryd.func6 rfl (ts := [2, 3]) rfl (by kernel_rfl) (by simp) ?_; simp (config := { dsimp := false }) only [go_sem, reduceIte, Nat.reduceEqDiff, reduceCtorEq, Nat.reduceAdd, Nat.reduceMul, Int.reduceToNat, Int.reduceLE, Int.reduceLT, Int.reduceEq, Int.reduceNe, Nat.reduceLeDiff, Int.reducePow, Nat.reducePow, Nat.reduceLT, Nat.reduceSub, Nat.reduceMod, Nat.reduceDiv, T.gf_11, T.ib_24, T.ib_3, T.ip_24, T.ip_3, init_a])
  refine loop_intro [] hm (fun r H => H = h ∧ ∃ sz : Nat, ((okSz sz ∧ sz ≤ vsz n) ∨ (sz = 16 ∧ 4611686018427387904 ≤ n)) ∧ r 0 = .int .u64 n ∧ r 4 = .int .i64 sz) (fun r _ => match r 4 with | .int _ x => (17 - x).toNat | _ => 0) ?_ ?_
  · exact ⟨rfl, 1, .inl ⟨.inl rfl, by rcases vsz_ok n with e | e | e | e <;> omega⟩, by simp [upd, initR], by simp [upd]⟩
  · rintro r _ ⟨rfl, sz, hs | ⟨hs, hbig⟩, h0, h4⟩
    · obtain ⟨hs, hle⟩ := hs
      have hz : ((sz : Int) ≤ 8) = True := eq_true (by rcases hs with e | e | e | e <;> omega)
      simp (config := { dsimp := false }) only [go_sem, reduceIte, Nat.reduceEqDiff, reduceCtorEq, Nat.reduceAdd, Nat.reduceMul, Int.reduceToNat, Int.reduceLE, Int.reduceLT, Int.reduceEq, Int.reduceNe, Nat.reduceLeDiff, Int.reducePow, Nat.reducePow, Nat.reduceLT, Nat.reduceSub, Nat.reduceMod, Nat.reduceDiv, T.gf_11, T.ib_24, T.ib_3, T.ip_24, T.ip_3, h0, h4, hz]
      refine CallsH.pure _ (pl sz) (PutInR_ph n sz hs hn _) ?_
      by_cases hf : n < top sz
      · have htop : top sz ≤ 4611686018427387904 := by rcases hs with rfl | rfl | rfl | rfl <;> decide
        have e : vsz n = sz := by
          rcases hs with rfl | rfl | rfl | rfl <;> simp only [top1, top2, top4, top8] at hf <;> rcases vsz_cases n with ⟨e, _⟩ | ⟨e, _⟩ | ⟨e, _⟩ | ⟨e, _⟩ <;> omega
        rw [putW, if_pos hf]
        simp (config := { dsimp := false }) only [go_sem, reduceIte, Nat.reduceEqDiff, reduceCtorEq, Nat.reduceAdd, Nat.reduceMul, Int.reduceToNat, Int.reduceLE, Int.reduceLT, Int.reduceEq, Int.reduceNe, Nat.reduceLeDiff, Int.reducePow, Nat.reducePow, Nat.reduceLT, Nat.reduceSub, Nat.reduceMod, Nat.reduceDiv, T.gf_11, T.ib_24, T.ib_3, T.ip_24, T.ip_3, h0, h4, hz]
        rw [if_pos (by omega), e]
      · have hs2 : (okSz (sz * 2) ∧ sz * 2 ≤ vsz n) ∨ (sz * 2 = 16 ∧ 4611686018427387904 ≤ n) := by
          rcases hs with rfl | rfl | rfl | rfl <;> simp only [top1, top2, top4, top8] at hf <;> rcases vsz_cases n with ⟨e, _⟩ | ⟨e, _⟩ | ⟨e, _⟩ | ⟨e, _⟩ <;> first | omega | exact .inl ⟨by simp [okSz], by omega⟩ | exact .inr ⟨rfl, by omega⟩
        have w1 : IntKind.i64.wrap ((sz : Int) * 2) = ((sz * 2 : Nat) : Int) := by rw [i64wrap] <;> (rcases hs with e | e | e | e <;> omega)
        rw [putW, if_neg hf]
        simp (config := { dsimp := false }) only [go_sem, reduceIte, Nat.reduceEqDiff, reduceCtorEq, Nat.reduceAdd, Nat.reduceMul, Int.reduceToNat, Int.reduceLE, Int.reduceLT, Int.reduceEq, Int.reduceNe, Nat.reduceLeDiff, Int.reducePow, Nat.reducePow, Nat.reduceLT, Nat.reduceSub, Nat.reduceMod, Nat.reduceDiv, T.gf_11, T.ib_24, T.ib_3, T.ip_24, T.ip_3, h0, h4, w1, hz]
        exact ⟨⟨sz * 2, hs2, rfl⟩, by rcases hs with e | e | e | e <;> omega⟩
    · have hz16 : ((sz : Int) ≤ 8) = False := eq_false (by omega)
      simp (config := { dsimp := false }) only [go_sem, reduceIte, Nat.reduceEqDiff, reduceCtorEq, Nat.reduceAdd, Nat.reduceMul, Int.reduceToNat, Int.reduceLE, Int.reduceLT, Int.reduceEq, Int.reduceNe, Nat.reduceLeDiff, Int.reducePow, Nat.reducePow, Nat.reduceLT, Nat.reduceSub, Nat.reduceMod, Nat.reduceDiv, T.gf_11, T.ib_24, T.ib_3, T.ip_24, T.ip_3, h0, h4, hz16]
      rw [if_neg (by omega)]
theorem counts_ph (h : Heap) : @CallsH Tryd.prog 7 #[] h ⟨fun u H => u = .bool true ∧ Upd h H []⟩ := by
  have s1 : vputS 15293 (vsz 15293) = [123, 189] := by decide
  have s2 : vputS 37 2 = [64, 37] := by decide
  (refine calls_of_codeR (rs := [.tmp 0]) Tryd.func7 rfl rfl (by simp) ?_)
  (refine CodeH.seq' (CodeH.of_vc [] hm (by kernel_rfl) ?_); simp (config := { dsimp := false, maxSteps := 10000000 }) (disch := omega) only [go_sem, reduceIte, Nat.reduceEqDiff, reduceCtorEq, Nat.reduceAdd, Nat.reduceMul, Int.reduceToNat, Int.reduceLE, Int.reduceLT, Int.reduceEq, Int.reduceNe, Nat.reduceLeDiff, Int.reducePow, Nat.reducePow, Nat.reduceLT, Nat.reduceSub, Nat.reduceMod, Nat.reduceDiv, slot_neg, slot_pos, T.gf_12, T.gf_13, T.ib_24, T.ib_9, T.ii_23, T.ii_9, T.ip_24, T.ip_9, T.s8_23, T.s8_9, T.sl_23, T.sl_9, T.st_23, T.st_9, T.un_23, T.un_9, init_a])
  (refine CodeH.seq' (CodeH.of_vc [] hm (by kernel_rfl) ?_); simp (config := { dsimp := false, maxSteps := 10000000 }) (disch := omega) only [go_sem, reduceIte, Nat.reduceEqDiff, reduceCtorEq, Nat.reduceAdd, Nat.reduceMul, Int.reduceToNat, Int.reduceLE, Int.reduceLT, Int.reduceEq, Int.reduceNe, Nat.reduceLeDiff, Int.reducePow, Nat.reducePow, Nat.reduceLT, Nat.reduceSub, Nat.reduceMod, Nat.reduceDiv, slot_neg, slot_pos, T.gf_12, T.gf_13, T.ib_24, T.ib_9, T.ii_23, T.ii_9, T.ip_24, T.ip_9, T.s8_23, T.s8_9, T.sl_23, T.sl_9, T.st_23, T.st_9, T.un_23, T.un_9, init_a])
  refine (Put_i64 h 15293 (by decide)).mono fun u H1 hu => ?_
  rcases hu with ⟨_, v1, D1, e1, o1, d1, u1⟩ | ⟨hb, _⟩
  · subst e1
    simp (config := { dsimp := false, maxSteps := 10000000 }) (disch := omega) only [go_sem, reduceIte, Nat.reduceEqDiff, reduceCtorEq, Nat.reduceAdd, Nat.reduceMul, Int.reduceToNat, Int.reduceLE, Int.reduceLT, Int.reduceEq, Int.reduceNe, Nat.reduceLeDiff, Int.reducePow, Nat.reducePow, Nat.reduceLT, Nat.reduceSub, Nat.reduceMod, Nat.reduceDiv, slot_neg, slot_pos, T.gf_12, T.gf_13, T.ib_24, T.ib_9, T.ii_23, T.ii_9, T.ip_24, T.ip_9, T.s8_23, T.s8_9, T.sl_23, T.sl_9, T.st_23, T.st_9, T.un_23, T.un_9]
    (refine CodeH.seq' (CodeH.of_vc [] hm (by kernel_rfl) ?_); simp (config := { dsimp := false, maxSteps := 10000000 }) (disch := omega) only [go_sem, reduceIte, Nat.reduceEqDiff, reduceCtorEq, Nat.reduceAdd, Nat.reduceMul, Int.reduceToNat, Int.reduceLE, Int.reduceLT, Int.reduceEq, Int.reduceNe, Nat.reduceLeDiff, Int.reducePow, Nat.reducePow, Nat.reduceLT, Nat.reduceSub, Nat.reduceMod, Nat.reduceDiv, slot_neg, slot_pos, T.gf_12, T.gf_13, T.ib_24, T.ib_9, T.ii_23, T.ii_9, T.ip_24, T.ip_9, T.s8_23, T.s8_9, T.sl_23, T.sl_9, T.st_23, T.st_9, T.un_23, T.un_9, init_a])
    refine (PutIn_u8 H1 37 2 (by simp [okSz]) (by decide) (by decide)).mono fun u H2 ⟨v2, D2, e2, o2, d2, u2⟩ => ?_
    subst e2
    simp (config := { dsimp := false, maxSteps := 10000000 }) (disch := omega) only [go_sem, reduceIte, Nat.reduceEqDiff, reduceCtorEq, Nat.reduceAdd, Nat.reduceMul, Int.reduceToNat, Int.reduceLE, Int.reduceLT, Int.reduceEq, Int.reduceNe, Nat.reduceLeDiff, Int.reducePow, Nat.reducePow, Nat.reduceLT, Nat.reduceSub, Nat.reduceMod, Nat.reduceDiv, slot_neg, slot_pos, T.gf_12, T.gf_13, T.ib_24, T.ib_9, T.ii_23, T.ii_9, T.ip_24, T.ip_9, T.s8_23, T.s8_9, T.sl_23, T.sl_9, T.st_23, T.st_9, T.un_23, T.un_9]
    rw [s2] at o2
    rw [s1] at o1
    rcases (o1.upd u2 (by simp)).row.slb with ⟨_, hn⟩ | ⟨i1, f1, vs1, q1, g1, g2, g3, g4⟩
    · simp at hn
    rcases o2.row.slb with ⟨_, hn⟩ | ⟨i2, f2, vs2, q2, k1, k2, k3, k4⟩
    · simp at hn
    subst g1 k1
    have g3' : List.take 2 (List.drop f1 vs1) = bc [123, 189] := g3
    have k3' : List.take 2 (List.drop f2 vs2) = bc [64, 37] := k3
    (refine CodeH.of_vc [] hm (by kernel_rfl) ?_; simp (config := { dsimp := false, maxSteps := 10000000 }) (disch := omega) only [go_sem, reduceIte, Nat.reduceEqDiff, reduceCtorEq, Nat.reduceAdd, Nat.reduceMul, Int.reduceToNat, Int.reduceLE, Int.reduceLT, Int.reduceEq, Int.reduceNe, Nat.reduceLeDiff, Int.reducePow, Nat.reducePow, Nat.reduceLT, Nat.reduceSub, Nat.reduceMod, Nat.reduceDiv, slot_neg, slot_pos, T.gf_12, T.gf_13, T.ib_24, T.ib_9, T.ii_23, T.ii_9, T.ip_24, T.ip_9, T.s8_23, T.s8_9, T.sl_23, T.sl_9, T.st_23, T.st_9, T.un_23, T.un_9, init_a, g2, g3', k2, k3', bc_val])
    exact ⟨g4, k4, u1.trans u2 (by simp)⟩
  · omega
end Ph
