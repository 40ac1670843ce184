import Derived.Test.YtcbgjjbbeeoekaaDoorE9
set_option maxRecDepth 100000
set_option maxHeartbeats 4000000
set_option linter.unusedSimpArgs false
set_option linter.unusedVariables false
namespace Ph
open Go Go.Proofs
attribute [local irreducible] Value.cells
attribute [local go_sem ↓] y_move y_assign y_pick y_nil y_bin y_un y_fa y_field y_ext y_ia y_ix y_slice y_build y_mf y_rg y_nx y_en y_mm y_lk y_mu y_del y_load y_len y_cap y_min y_max y_conv y_bs y_mk y_alloc y_box y_store y_clear y_app y_callf y_callt s_move s_assign s_pick s_nil s_bin s_un s_fa s_field s_ext s_ia s_ix s_slice s_conv s_build s_bs s_mf s_alloc s_box s_rg s_nx s_en s_mm s_lk s_mu s_del s_load s_store s_len s_clear s_cap s_min s_max s_app s_call q_call q_move q_assign q_pick q_nil q_bin q_un q_fa q_field q_ext q_ia q_ix q_slice q_conv q_build q_mf q_lk q_load q_len q_cap q_min q_max l_nil l_move l_assign l_pick l_nilc l_bin l_un l_fa l_field l_ext l_ia l_ix l_slice l_conv l_build l_mf l_lk l_load l_len l_cap l_min l_max l_call put_eq putN_eq o_nil o_plain o_gate v_nil v_plain v_gate vc_skip vc_region vc_seq vc_cond vc_block vc_loop vc_rf vc_exit vc_ret blk_normal blk_ret blk_exit on_normal on_ret on_exit vc_drawn draw_q s_mk l_bs l_mk l_rg l_nx l_en l_mm l_mu l_del l_alloc l_box l_store l_app l_clear pl_done pl_takeS pl_take pl_alt pl_stop one_plain one_gate
attribute [local go_sem] clear_nil clear_sl onAgg_a onTuple_t onFn_f onFn_y onFunc_f c_int c_nil c_sl c_str sl_sl sl_nil sl_str ix_str ix_agg n_nil n_sl n_str app_eq app_eqZ k_nil k_sl cap_n len_sl len_str len_mn len_m onMap_m onIter_i rg_n rg_m nx_p en_p lk_n lk_m up_m setM_n setM_s del_n del_m kt_s kt_i upd_some upd_none ev_tmp ev_const ev_func rd_some gdst_eq otmp_t otmp_c get_put get_alloc next_put next_alloc get_app next_app init_a resV1 resV2 onPtr_ptr onBool_b onInt_i onSlice_s onSome_s onCells_c lett_eq gate_tt gate_tf gate_ff gate_ft gate_dt gate_df also_eq bin un minmax io_none io_some bo_none bo_some partOf List.getElem?_cons_zero List.getElem?_cons_succ List.getElem?_toArray Option.map_some Option.map_none Option.bind_some ne_eq not_true_eq_false not_false_eq_true false_implies true_implies and_true true_and and_self Bool.false_eq_true Nat.zero_add Nat.add_zero List.size_toArray List.length_cons List.length_nil List.map_toArray List.map_cons List.map_nil Array.getD_eq_getD_getElem? Option.getD_some Bool.not_true Bool.not_false Bool.not_eq_true Option.isNone_some Option.isNone_none List.append_toArray List.append_nil List.nil_append List.cons_append decide_true decide_false in_nil in_cons Bool.and_false Bool.and_true Bool.or_false Bool.true_or Bool.false_or get_mask next_mask get_unmask next_unmask ac_move ac_assign ac_pick ac_nil ac_bin ac_un ac_fa ac_field ac_ext ac_ia ac_ix ac_slice ac_build ac_mf ac_call ac_len ac_lk ac_cap ac_min ac_max accM_m accM_n accM_s accM_t ac_load ac_conv accP_p accS_s accS_n accS_i accS_t fixed_ro fixed_lock fixed_own get_ro next_ro lock_live' lock_cells List.mem_cons List.not_mem_nil or_false false_or or_true true_or and_false false_and IntKind.bits Int.natCast_zero Int.natCast_one size_str data_str list_str mk_str ext_str app_str bytes_str w_byte w_byteu Int.toNat_natCast Int.toNat_zero Int.toNat_one Nat.sub_zero ge_iff_le gt_iff_lt Nat.le_refl Int.le_refl List.drop_zero Int.ofNat_eq_natCast Int.natCast_nonneg Int.sub_zero oc_int oc_bool oc_str oc_ptr oc_sl oc_map oc_func List.set_cons_zero List.set_cons_succ Nat.mul_one List.all_cons List.all_nil Bool.and_self res_nil res_tmp res_cell tup_one tup_two tup_nil fill_nil repl_zero cells_agg List.append_eq List.toList_toArray Nat.zero_mul Nat.one_mul repl_one repl_two onSome_build fill_cons onSome_lit splice_eq cells_int cells_bool cells_str cells_ptr cells_sl cells_map cells_func loadK_n loadK_s load_k storeK_n storeK_s store_k all_arr List.take_zero List.take_succ_cons List.drop_succ_cons List.take_nil List.drop_nil lk_own lk_ro lk_lock lk_lk fixed_lk gate_nt gate_nf gate3_b gate3_u undef Bool.true_and Bool.false_and nx_l nx_r nx_lt put_put resV0
attribute [local go_sem] str_inj size_str
/-! Get. -/
def getS (b s : List UInt8) (e before a : Nat) : List UInt8 × Nat × Int :=
  if a < b.length then
    if (b.getD a 0).toNat = 0 then (if s = [] then [46] else s, if e = 0 then a + 1 else e, 0)
    else if 192 ≤ (b.getD a 0).toNat then
      if a + 1 = b.length then ([], 0, 3)
      else if before ≤ ((b.getD a 0).toNat - 192) * 256 + (b.getD (a + 1) 0).toNat then ([], 0, 13)
      else getS b s (if e = 0 then a + 2 else e) (((b.getD a 0).toNat - 192) * 256 + (b.getD (a + 1) 0).toNat) (((b.getD a 0).toNat - 192) * 256 + (b.getD (a + 1) 0).toNat)
    else if 63 < (b.getD a 0).toNat then ([], 0, 2)
    else if (partS (b.drop (a + 1)) (b.getD a 0).toNat).2 ≠ 0 then ([], 0, (partS (b.drop (a + 1)) (b.getD a 0).toNat).2)
    else if 254 < (s ++ (partS (b.drop (a + 1)) (b.getD a 0).toNat).1 ++ [46]).length then ([], 0, 14)
    else getS b (s ++ (partS (b.drop (a + 1)) (b.getD a 0).toNat).1 ++ [46]) e a (a + 1 + (b.getD a 0).toNat)
  else ([], 0, 3)
termination_by (255 - s.length, before)
decreasing_by
  · rename_i h1 h2 h3 h4 h5
    exact Prod.Lex.right _ (by omega)
  · rename_i h1 h2 h3 h4 h5 h6
    refine Prod.Lex.left _ _ ?_
    simp at h6 ⊢
    omega
def getT (b : List UInt8) (at_ : Int) : List UInt8 × Nat × Int := if at_ < 0 ∨ b.length < at_ then ([], 0, 1) else getS b [] 0 at_.toNat at_.toNat
theorem far_place {n c : Nat} (h1 : 192 ≤ n) (h2 : n < 256) (h3 : c < 256) : IntKind.i64.wrap ((BitVec.ofInt IntKind.i64.bits (IntKind.i64.wrap (IntKind.i64.wrap ((BitVec.ofInt IntKind.i64.bits (n : Int) &&& ~~~BitVec.ofInt IntKind.i64.bits 192).toNat : Int) * 2 ^ min 8 64)) ||| BitVec.ofInt IntKind.i64.bits (c : Int)).toNat : Int) = (((n - 192) * 256 + c : Nat) : Int) := by
  have key : ∀ m : Fin 64, ∀ c : Fin 256, IntKind.i64.wrap ((BitVec.ofInt IntKind.i64.bits (IntKind.i64.wrap (IntKind.i64.wrap ((BitVec.ofInt IntKind.i64.bits ((192 + m.val : Nat) : Int) &&& ~~~BitVec.ofInt IntKind.i64.bits 192).toNat : Int) * 2 ^ min 8 64)) ||| BitVec.ofInt IntKind.i64.bits (c.val : Int)).toNat : Int) = ((m.val * 256 + c.val : Nat) : Int) := by decide +kernel
  have := key ⟨n - 192, by omega⟩ ⟨c, h3⟩
  simp only [show 192 + (n - 192) = n from by omega] at this
  exact this
theorem partS_len : ∀ (l : List UInt8) (k : Nat), (partS l k).1.length ≤ k
  | _, 0 => by unfold partS; exact Nat.le_refl _
  | [], k + 1 => Nat.zero_le _
  | c :: r, k + 1 => by
    have ih := partS_len r k
    rw [partS]
    by_cases h1 : letB (lowc c) = true
    · rw [if_pos h1]
      by_cases h2 : (partS r k).2 = 0
      · rw [if_pos h2]; simp; exact ih
      · rw [if_neg h2]; exact Nat.zero_le _
    · rw [if_neg h1]; exact Nat.zero_le _
theorem Get_ph (h : Heap) (v : Value) (b : List UInt8) (at_ : Int) (hr : RowIn u8E h v b) (hlt : ∀ A k st, v = .slice (some A) k st → A.block < h.next) (hb : b.length < 4611686018427387904) :
    @CallsH Tryd.prog 16 #[v, .int .i64 at_] h ⟨fun u H => u = .tuple #[.string (str (getT b at_).1), .int .i64 ((getT b at_).2.1 : Nat), .int .i64 (getT b at_).2.2] ∧ Upd h H []⟩ := by
  obtain ⟨A, st, hv⟩ := hr.form
  have ho := hr.one
  unfold getT
  by_cases h1 : at_ < 0
  · (refine calls_of_vc [] hm Tryd.func16 rfl (ts := [4, 5, 6]) rfl (by kernel_rfl) (by simp) ?_; simp (config := { dsimp := false, maxSteps := 10000000 }) (disch := omega) only [go_sem, reduceIte, Nat.reduceEqDiff, reduceCtorEq, Nat.reduceAdd, Nat.reduceMul, Int.reduceToNat, Int.reduceLE, Int.reduceLT, Int.reduceEq, Int.reduceNe, Nat.reduceLeDiff, Int.reducePow, Nat.reducePow, Nat.reduceLT, Nat.reduceSub, Nat.reduceMod, Nat.reduceDiv, slot_neg, slot_pos, T.ag_5, T.es_32, T.gf_27, T.ib_25, T.ib_3, T.ib_9, T.ii_3, T.ii_32, T.ii_5, T.ii_9, T.ip_25, T.ip_3, T.ip_9, T.s8_3, T.s8_32, T.s8_5, T.s8_9, T.sl_3, T.sl_32, T.sl_5, T.sl_9, T.st_3, T.st_32, T.st_5, T.st_9, T.un_3, T.un_32, T.un_5, T.un_9, init_a, ho.1, ho.2, hv, h1])
    exact Upd.refl _ _
  by_cases h2 : b.length < at_
  · (refine calls_of_vc [] hm Tryd.func16 rfl (ts := [4, 5, 6]) rfl (by kernel_rfl) (by simp) ?_; simp (config := { dsimp := false, maxSteps := 10000000 }) (disch := omega) only [go_sem, reduceIte, Nat.reduceEqDiff, reduceCtorEq, Nat.reduceAdd, Nat.reduceMul, Int.reduceToNat, Int.reduceLE, Int.reduceLT, Int.reduceEq, Int.reduceNe, Nat.reduceLeDiff, Int.reducePow, Nat.reducePow, Nat.reduceLT, Nat.reduceSub, Nat.reduceMod, Nat.reduceDiv, slot_neg, slot_pos, T.ag_5, T.es_32, T.gf_27, T.ib_25, T.ib_3, T.ib_9, T.ii_3, T.ii_32, T.ii_5, T.ii_9, T.ip_25, T.ip_3, T.ip_9, T.s8_3, T.s8_32, T.s8_5, T.s8_9, T.sl_3, T.sl_32, T.sl_5, T.sl_9, T.st_3, T.st_32, T.st_5, T.st_9, T.un_3, T.un_32, T.un_5, T.un_9, init_a, ho.1, ho.2, hv, h1, h2])
    exact Upd.refl _ _
  obtain ⟨a0, rfl⟩ : ∃ n : Nat, at_ = n := ⟨at_.toNat, by omega⟩
  rw [if_neg (by omega), Int.toNat_natCast]
  obtain ⟨tt, hT⟩ : ∃ tt, getS b [] 0 a0 a0 = tt := ⟨_, rfl⟩
  rw [hT]
  have w00 : IntKind.i64.wrap 0 = 0 := by decide
  (refine calls_of_vc [] hm Tryd.func16 rfl (ts := [4, 5, 6]) rfl (by kernel_rfl) (by simp) ?_; simp (config := { dsimp := false, maxSteps := 10000000 }) (disch := omega) only [go_sem, reduceIte, Nat.reduceEqDiff, reduceCtorEq, Nat.reduceAdd, Nat.reduceMul, Int.reduceToNat, Int.reduceLE, Int.reduceLT, Int.reduceEq, Int.reduceNe, Nat.reduceLeDiff, Int.reducePow, Nat.reducePow, Nat.reduceLT, Nat.reduceSub, Nat.reduceMod, Nat.reduceDiv, slot_neg, slot_pos, T.ag_5, T.es_32, T.gf_27, T.ib_25, T.ib_3, T.ib_9, T.ii_3, T.ii_32, T.ii_5, T.ii_9, T.ip_25, T.ip_3, T.ip_9, T.s8_3, T.s8_32, T.s8_5, T.s8_9, T.sl_3, T.sl_32, T.sl_5, T.sl_9, T.st_3, T.st_32, T.st_5, T.st_9, T.un_3, T.un_32, T.un_5, T.un_9, init_a, ho.1, ho.2, hv, h1, h2])
  refine loop_intro [] hm (fun r H => ∃ (s : List UInt8) (e before a : Nat), r 0 = v ∧ r 1 = .int .i64 (a : Int) ∧ r 7 = .string (str s) ∧ r 8 = .int .i64 (e : Int) ∧ r 9 = .int .i64 (before : Int) ∧ s.length ≤ 254 ∧ before ≤ b.length ∧ a ≤ b.length + 256 + 16384 ∧ Upd h H [] ∧ tt = getS b s e before a) (fun r _ => match r 7, r 9 with | .string s, .int _ n => (255 - s.size) * (b.length + 1) + n.toNat | _, _ => 0) ?_ ?_
  · exact ⟨[], 0, a0, a0, by simp [upd, initR, hv], by simp [upd, initR], by simp [upd], by simp [upd], by simp [upd, initR], by simp, by omega, by omega, Upd.refl _ _, hT.symm⟩
  · rintro r H ⟨s, e, before, a, q0, q1, q7, q8, q9, hs, hbe, ha, hU, hg⟩
    unfold getS at hg
    by_cases hab : a < b.length
    · have c1 : ((a : Int) < (b.length : Int)) = True := eq_true (by omega)
      rw [if_pos hab] at hg
      have hr' := hr
      rcases hr with ⟨_, h0⟩ | ⟨q, off, vs, ow, hv', hgq, hR⟩
      · rw [h0] at hab; simp at hab
      have hqn := hlt _ _ _ hv'
      have hcl : ∀ k, k < b.length → vs[off + k]? = some (.int .u8 ((b.getD k 0).toNat : Int)) := fun k hk => by
        have hb := hR.cell (List.getElem?_eq_getElem hk) (j := 0) Nat.zero_lt_one
        rw [show u8E.k = 1 from rfl, Nat.mul_one, Nat.add_zero, show b[k] = b.getD k 0 from by simp [List.getElem?_eq_getElem hk]] at hb
        exact hb
      have hca := hcl a hab
      have hg2 := (hU.2 q hqn (by simp)).trans hgq
      rw [show u8E.k = 1 from rfl] at hv'
      obtain ⟨n, hn⟩ : ∃ n, (b.getD a 0).toNat = n := ⟨_, rfl⟩
      have hn255 : n < 256 := by rw [← hn]; exact (b.getD a 0).toNat_lt
      rw [hn] at hca hg
      have wn : IntKind.i64.wrap (n : Int) = n := i64wrap (by omega) (by omega)
      have wa1 : IntKind.i64.wrap ((a : Int) + 1) = ((a + 1 : Nat) : Int) := by rw [i64wrap] <;> omega
      have wa2 : IntKind.i64.wrap ((a : Int) + 2) = ((a + 2 : Nat) : Int) := by rw [i64wrap] <;> omega
      by_cases hn0 : n = 0
      · rw [if_pos hn0] at hg
        subst hn0
        by_cases hs0 : s = [] <;> by_cases he0 : e = 0
        · subst hs0 he0
          simp (config := { dsimp := false, maxSteps := 10000000 }) (disch := omega) only [go_sem, reduceIte, Nat.reduceEqDiff, reduceCtorEq, Nat.reduceAdd, Nat.reduceMul, Int.reduceToNat, Int.reduceLE, Int.reduceLT, Int.reduceEq, Int.reduceNe, Nat.reduceLeDiff, Int.reducePow, Nat.reducePow, Nat.reduceLT, Nat.reduceSub, Nat.reduceMod, Nat.reduceDiv, slot_neg, slot_pos, T.ag_5, T.es_32, T.gf_27, T.ib_25, T.ib_3, T.ib_9, T.ii_3, T.ii_32, T.ii_5, T.ii_9, T.ip_25, T.ip_3, T.ip_9, T.s8_3, T.s8_32, T.s8_5, T.s8_9, T.sl_3, T.sl_32, T.sl_5, T.sl_9, T.st_3, T.st_32, T.st_5, T.st_9, T.un_3, T.un_32, T.un_5, T.un_9, q0, q1, q7, q8, q9, c1, hv', hg2, hca, wn, w00, wa1, mk_str]
          rw [hg]; exact ⟨rfl, hU⟩
        · subst hs0
          have d1 : ((e : Int) = 0) = False := eq_false (by omega)
          rw [if_neg he0] at hg
          simp (config := { dsimp := false, maxSteps := 10000000 }) (disch := omega) only [go_sem, reduceIte, Nat.reduceEqDiff, reduceCtorEq, Nat.reduceAdd, Nat.reduceMul, Int.reduceToNat, Int.reduceLE, Int.reduceLT, Int.reduceEq, Int.reduceNe, Nat.reduceLeDiff, Int.reducePow, Nat.reducePow, Nat.reduceLT, Nat.reduceSub, Nat.reduceMod, Nat.reduceDiv, slot_neg, slot_pos, T.ag_5, T.es_32, T.gf_27, T.ib_25, T.ib_3, T.ib_9, T.ii_3, T.ii_32, T.ii_5, T.ii_9, T.ip_25, T.ip_3, T.ip_9, T.s8_3, T.s8_32, T.s8_5, T.s8_9, T.sl_3, T.sl_32, T.sl_5, T.sl_9, T.st_3, T.st_32, T.st_5, T.st_9, T.un_3, T.un_32, T.un_5, T.un_9, q0, q1, q7, q8, q9, c1, hv', hg2, hca, wn, w00, wa1, mk_str, d1]
          rw [hg]; exact ⟨rfl, hU⟩
        · subst he0
          have d2 := eq_false hs0
          rw [if_neg hs0] at hg
          simp (config := { dsimp := false, maxSteps := 10000000 }) (disch := omega) only [go_sem, reduceIte, Nat.reduceEqDiff, reduceCtorEq, Nat.reduceAdd, Nat.reduceMul, Int.reduceToNat, Int.reduceLE, Int.reduceLT, Int.reduceEq, Int.reduceNe, Nat.reduceLeDiff, Int.reducePow, Nat.reducePow, Nat.reduceLT, Nat.reduceSub, Nat.reduceMod, Nat.reduceDiv, slot_neg, slot_pos, T.ag_5, T.es_32, T.gf_27, T.ib_25, T.ib_3, T.ib_9, T.ii_3, T.ii_32, T.ii_5, T.ii_9, T.ip_25, T.ip_3, T.ip_9, T.s8_3, T.s8_32, T.s8_5, T.s8_9, T.sl_3, T.sl_32, T.sl_5, T.sl_9, T.st_3, T.st_32, T.st_5, T.st_9, T.un_3, T.un_32, T.un_5, T.un_9, q0, q1, q7, q8, q9, c1, hv', hg2, hca, wn, w00, wa1, mk_str, d2]
          rw [hg]; exact ⟨rfl, hU⟩
        · have d1 : ((e : Int) = 0) = False := eq_false (by omega)
          have d2 := eq_false hs0
          rw [if_neg hs0, if_neg he0] at hg
          simp (config := { dsimp := false, maxSteps := 10000000 }) (disch := omega) only [go_sem, reduceIte, Nat.reduceEqDiff, reduceCtorEq, Nat.reduceAdd, Nat.reduceMul, Int.reduceToNat, Int.reduceLE, Int.reduceLT, Int.reduceEq, Int.reduceNe, Nat.reduceLeDiff, Int.reducePow, Nat.reducePow, Nat.reduceLT, Nat.reduceSub, Nat.reduceMod, Nat.reduceDiv, slot_neg, slot_pos, T.ag_5, T.es_32, T.gf_27, T.ib_25, T.ib_3, T.ib_9, T.ii_3, T.ii_32, T.ii_5, T.ii_9, T.ip_25, T.ip_3, T.ip_9, T.s8_3, T.s8_32, T.s8_5, T.s8_9, T.sl_3, T.sl_32, T.sl_5, T.sl_9, T.st_3, T.st_32, T.st_5, T.st_9, T.un_3, T.un_32, T.un_5, T.un_9, q0, q1, q7, q8, q9, c1, hv', hg2, hca, wn, w00, wa1, mk_str, d1, d2]
          rw [hg]; exact ⟨rfl, hU⟩
      rw [if_neg hn0] at hg
      have d0 : ((n : Int) = 0) = False := eq_false (by omega)
      by_cases h192 : 192 ≤ n
      · rw [if_pos h192] at hg
        have d1 : ((192 : Int) ≤ (n : Int)) = True := eq_true (by omega)
        by_cases hend : a + 1 = b.length
        · have d2 : (((a + 1 : Nat) : Int) = (b.length : Int)) = True := eq_true (by omega)
          rw [if_pos hend] at hg
          simp (config := { dsimp := false, maxSteps := 10000000 }) (disch := omega) only [go_sem, reduceIte, Nat.reduceEqDiff, reduceCtorEq, Nat.reduceAdd, Nat.reduceMul, Int.reduceToNat, Int.reduceLE, Int.reduceLT, Int.reduceEq, Int.reduceNe, Nat.reduceLeDiff, Int.reducePow, Nat.reducePow, Nat.reduceLT, Nat.reduceSub, Nat.reduceMod, Nat.reduceDiv, slot_neg, slot_pos, T.ag_5, T.es_32, T.gf_27, T.ib_25, T.ib_3, T.ib_9, T.ii_3, T.ii_32, T.ii_5, T.ii_9, T.ip_25, T.ip_3, T.ip_9, T.s8_3, T.s8_32, T.s8_5, T.s8_9, T.sl_3, T.sl_32, T.sl_5, T.sl_9, T.st_3, T.st_32, T.st_5, T.st_9, T.un_3, T.un_32, T.un_5, T.un_9, q0, q1, q7, q8, q9, c1, hv', hg2, hca, wn, wa1, d0, d1, d2]
          rw [hg]; exact ⟨rfl, hU⟩
        have d2 : (((a + 1 : Nat) : Int) = (b.length : Int)) = False := eq_false (by omega)
        rw [if_neg hend] at hg
        have hca1 := hcl (a + 1) (by omega)
        have hc255 : (b.getD (a + 1) 0).toNat < 256 := (b.getD (a + 1) 0).toNat_lt
        generalize (b.getD (a + 1) 0).toNat = c at *
        have wc : IntKind.i64.wrap (c : Int) = c := i64wrap (by omega) (by omega)
        have wto := far_place (c := c) h192 hn255 hc255
        have c2 : (((a + 1 : Nat) : Int) < (b.length : Int)) := by omega
        obtain ⟨far, hto⟩ : ∃ far, (n - 192) * 256 + c = far := ⟨_, rfl⟩
        rw [hto] at hg wto
        by_cases hbt : before ≤ far
        · have d3 : ((before : Int) ≤ (far : Int)) = True := eq_true (by omega)
          rw [if_pos hbt] at hg
          by_cases he0 : e = 0
          · subst he0
            simp (config := { dsimp := false, maxSteps := 10000000 }) (disch := omega) only [go_sem, reduceIte, Nat.reduceEqDiff, reduceCtorEq, Nat.reduceAdd, Nat.reduceMul, Int.reduceToNat, Int.reduceLE, Int.reduceLT, Int.reduceEq, Int.reduceNe, Nat.reduceLeDiff, Int.reducePow, Nat.reducePow, Nat.reduceLT, Nat.reduceSub, Nat.reduceMod, Nat.reduceDiv, slot_neg, slot_pos, T.ag_5, T.es_32, T.gf_27, T.ib_25, T.ib_3, T.ib_9, T.ii_3, T.ii_32, T.ii_5, T.ii_9, T.ip_25, T.ip_3, T.ip_9, T.s8_3, T.s8_32, T.s8_5, T.s8_9, T.sl_3, T.sl_32, T.sl_5, T.sl_9, T.st_3, T.st_32, T.st_5, T.st_9, T.un_3, T.un_32, T.un_5, T.un_9, q0, q1, q7, q8, q9, c1, hv', hg2, hca, wn, wa1, wa2, d0, d1, d2, hca1, wto, wc, d3]
            rw [hg]; exact ⟨c2, rfl, hU⟩
          · have d4 : ((e : Int) = 0) = False := eq_false (by omega)
            simp (config := { dsimp := false, maxSteps := 10000000 }) (disch := omega) only [go_sem, reduceIte, Nat.reduceEqDiff, reduceCtorEq, Nat.reduceAdd, Nat.reduceMul, Int.reduceToNat, Int.reduceLE, Int.reduceLT, Int.reduceEq, Int.reduceNe, Nat.reduceLeDiff, Int.reducePow, Nat.reducePow, Nat.reduceLT, Nat.reduceSub, Nat.reduceMod, Nat.reduceDiv, slot_neg, slot_pos, T.ag_5, T.es_32, T.gf_27, T.ib_25, T.ib_3, T.ib_9, T.ii_3, T.ii_32, T.ii_5, T.ii_9, T.ip_25, T.ip_3, T.ip_9, T.s8_3, T.s8_32, T.s8_5, T.s8_9, T.sl_3, T.sl_32, T.sl_5, T.sl_9, T.st_3, T.st_32, T.st_5, T.st_9, T.un_3, T.un_32, T.un_5, T.un_9, q0, q1, q7, q8, q9, c1, hv', hg2, hca, wn, wa1, wa2, d0, d1, d2, hca1, wto, wc, d3, d4]
            rw [hg]; exact ⟨c2, rfl, hU⟩
        · have d3 : ((before : Int) ≤ (far : Int)) = False := eq_false (by omega)
          rw [if_neg hbt] at hg
          by_cases he0 : e = 0
          · subst he0
            rw [if_pos rfl] at hg
            simp (config := { dsimp := false, maxSteps := 10000000 }) (disch := omega) only [go_sem, reduceIte, Nat.reduceEqDiff, reduceCtorEq, Nat.reduceAdd, Nat.reduceMul, Int.reduceToNat, Int.reduceLE, Int.reduceLT, Int.reduceEq, Int.reduceNe, Nat.reduceLeDiff, Int.reducePow, Nat.reducePow, Nat.reduceLT, Nat.reduceSub, Nat.reduceMod, Nat.reduceDiv, slot_neg, slot_pos, T.ag_5, T.es_32, T.gf_27, T.ib_25, T.ib_3, T.ib_9, T.ii_3, T.ii_32, T.ii_5, T.ii_9, T.ip_25, T.ip_3, T.ip_9, T.s8_3, T.s8_32, T.s8_5, T.s8_9, T.sl_3, T.sl_32, T.sl_5, T.sl_9, T.st_3, T.st_32, T.st_5, T.st_9, T.un_3, T.un_32, T.un_5, T.un_9, q0, q1, q7, q8, q9, c1, hv', hg2, hca, wn, wa1, wa2, d0, d1, d2, hca1, wto, wc, d3]
            exact ⟨c2, ⟨s, a + 2, far, far, rfl, rfl, rfl, rfl, hs, by omega, by omega, hU, hg⟩, by omega⟩
          · have d4 : ((e : Int) = 0) = False := eq_false (by omega)
            rw [if_neg he0] at hg
            simp (config := { dsimp := false, maxSteps := 10000000 }) (disch := omega) only [go_sem, reduceIte, Nat.reduceEqDiff, reduceCtorEq, Nat.reduceAdd, Nat.reduceMul, Int.reduceToNat, Int.reduceLE, Int.reduceLT, Int.reduceEq, Int.reduceNe, Nat.reduceLeDiff, Int.reducePow, Nat.reducePow, Nat.reduceLT, Nat.reduceSub, Nat.reduceMod, Nat.reduceDiv, slot_neg, slot_pos, T.ag_5, T.es_32, T.gf_27, T.ib_25, T.ib_3, T.ib_9, T.ii_3, T.ii_32, T.ii_5, T.ii_9, T.ip_25, T.ip_3, T.ip_9, T.s8_3, T.s8_32, T.s8_5, T.s8_9, T.sl_3, T.sl_32, T.sl_5, T.sl_9, T.st_3, T.st_32, T.st_5, T.st_9, T.un_3, T.un_32, T.un_5, T.un_9, q0, q1, q7, q8, q9, c1, hv', hg2, hca, wn, wa1, wa2, d0, d1, d2, hca1, wto, wc, d3, d4]
            exact ⟨c2, ⟨s, e, far, far, rfl, rfl, rfl, rfl, hs, by omega, by omega, hU, hg⟩, by omega⟩
      rw [if_neg h192] at hg
      have d1 : ((192 : Int) ≤ (n : Int)) = False := eq_false (by omega)
      by_cases h63 : 63 < n
      · have d2 : ((63 : Int) < (n : Int)) = True := eq_true (by omega)
        rw [if_pos h63] at hg
        simp (config := { dsimp := false, maxSteps := 10000000 }) (disch := omega) only [go_sem, reduceIte, Nat.reduceEqDiff, reduceCtorEq, Nat.reduceAdd, Nat.reduceMul, Int.reduceToNat, Int.reduceLE, Int.reduceLT, Int.reduceEq, Int.reduceNe, Nat.reduceLeDiff, Int.reducePow, Nat.reducePow, Nat.reduceLT, Nat.reduceSub, Nat.reduceMod, Nat.reduceDiv, slot_neg, slot_pos, T.ag_5, T.es_32, T.gf_27, T.ib_25, T.ib_3, T.ib_9, T.ii_3, T.ii_32, T.ii_5, T.ii_9, T.ip_25, T.ip_3, T.ip_9, T.s8_3, T.s8_32, T.s8_5, T.s8_9, T.sl_3, T.sl_32, T.sl_5, T.sl_9, T.st_3, T.st_32, T.st_5, T.st_9, T.un_3, T.un_32, T.un_5, T.un_9, q0, q1, q7, q8, q9, c1, hv', hg2, hca, wn, wa1, d0, d1, d2]
        rw [hg]; exact ⟨rfl, hU⟩
      have d2 : ((63 : Int) < (n : Int)) = False := eq_false (by omega)
      rw [if_neg h63] at hg
      simp (config := { dsimp := false, maxSteps := 10000000 }) (disch := omega) only [go_sem, reduceIte, Nat.reduceEqDiff, reduceCtorEq, Nat.reduceAdd, Nat.reduceMul, Int.reduceToNat, Int.reduceLE, Int.reduceLT, Int.reduceEq, Int.reduceNe, Nat.reduceLeDiff, Int.reducePow, Nat.reducePow, Nat.reduceLT, Nat.reduceSub, Nat.reduceMod, Nat.reduceDiv, slot_neg, slot_pos, T.ag_5, T.es_32, T.gf_27, T.ib_25, T.ib_3, T.ib_9, T.ii_3, T.ii_32, T.ii_5, T.ii_9, T.ip_25, T.ip_3, T.ip_9, T.s8_3, T.s8_32, T.s8_5, T.s8_9, T.sl_3, T.sl_32, T.sl_5, T.sl_9, T.st_3, T.st_32, T.st_5, T.st_9, T.un_3, T.un_32, T.un_5, T.un_9, q0, q1, q7, q8, q9, c1, hv', hg2, hca, wn, wa1, d0, d1, d2]
      have hrow : RowIn u8E H (.slice (some ⟨q, off + (a + 1), none⟩) (b.length - (a + 1)) 1) (b.drop (a + 1)) := .inr ⟨q, off + (a + 1) * 1, vs, ow, by rw [List.length_drop, Nat.mul_one]; rfl, hg2, hR.drop (a + 1) (by omega)⟩
      rw [show ((b.length : Int) - ((a + 1 : Nat) : Int)).toNat = b.length - (a + 1) from by omega]
      refine ⟨by omega, (part_ph H _ (b.drop (a + 1)) n hrow (by omega) (fun A k st e => by cases e; exact Nat.lt_of_lt_of_le hqn hU.1)).mono fun u H2 ⟨hu2, hU2⟩ => ?_⟩
      subst hu2
      have hUU := hU.trans hU2 (by simp)
      have hpl := partS_len (b.drop (a + 1)) n
      generalize partS (b.drop (a + 1)) n = pp at *
      have dA : (pp.1.length ≤ 9223372036854775806) = True := eq_true (by omega)
      have dB : (s.length + (pp.1.length + 1) ≤ 9223372036854775807) = True := eq_true (by omega)
      have wl1 : IntKind.i64.wrap (1 + (n : Int)) = ((1 + n : Nat) : Int) := by rw [i64wrap] <;> omega
      have wl2 : IntKind.i64.wrap ((a : Int) + ((1 + n : Nat) : Int)) = ((a + 1 + n : Nat) : Int) := by rw [i64wrap] <;> omega
      by_cases hp2 : pp.2 = 0
      · rw [if_neg (by simp [hp2]), List.append_assoc] at hg
        have hq1 : (pp.1 ++ [46]).length = pp.1.length + 1 := by simp
        have dC : (s.length + (pp.1 ++ [46]).length ≤ 9223372036854775807) = True := eq_true (by omega)
        have happ : (s ++ (pp.1 ++ [46])).length = s.length + (pp.1.length + 1) := by rw [List.length_append, hq1]
        by_cases h254 : 254 < (s ++ (pp.1 ++ [46])).length
        · rw [if_pos h254] at hg
          have d5 : ((254 : Int) < (((s ++ (pp.1 ++ [46])).length : Nat) : Int)) = True := eq_true (by omega)
          simp (config := { dsimp := false, maxSteps := 10000000 }) (disch := omega) only [go_sem, reduceIte, Nat.reduceEqDiff, reduceCtorEq, Nat.reduceAdd, Nat.reduceMul, Int.reduceToNat, Int.reduceLE, Int.reduceLT, Int.reduceEq, Int.reduceNe, Nat.reduceLeDiff, Int.reducePow, Nat.reducePow, Nat.reduceLT, Nat.reduceSub, Nat.reduceMod, Nat.reduceDiv, slot_neg, slot_pos, T.ag_5, T.es_32, T.gf_27, T.ib_25, T.ib_3, T.ib_9, T.ii_3, T.ii_32, T.ii_5, T.ii_9, T.ip_25, T.ip_3, T.ip_9, T.s8_3, T.s8_32, T.s8_5, T.s8_9, T.sl_3, T.sl_32, T.sl_5, T.sl_9, T.st_3, T.st_32, T.st_5, T.st_9, T.un_3, T.un_32, T.un_5, T.un_9, q0, q1, q7, q8, q9, hp2, app_str, mk_str, dA, dC, d5]
          rw [hg]; exact ⟨rfl, hUU⟩
        · rw [if_neg h254] at hg
          have d5 : ((254 : Int) < (((s ++ (pp.1 ++ [46])).length : Nat) : Int)) = False := eq_false (by omega)
          simp (config := { dsimp := false, maxSteps := 10000000 }) (disch := omega) only [go_sem, reduceIte, Nat.reduceEqDiff, reduceCtorEq, Nat.reduceAdd, Nat.reduceMul, Int.reduceToNat, Int.reduceLE, Int.reduceLT, Int.reduceEq, Int.reduceNe, Nat.reduceLeDiff, Int.reducePow, Nat.reducePow, Nat.reduceLT, Nat.reduceSub, Nat.reduceMod, Nat.reduceDiv, slot_neg, slot_pos, T.ag_5, T.es_32, T.gf_27, T.ib_25, T.ib_3, T.ib_9, T.ii_3, T.ii_32, T.ii_5, T.ii_9, T.ip_25, T.ip_3, T.ip_9, T.s8_3, T.s8_32, T.s8_5, T.s8_9, T.sl_3, T.sl_32, T.sl_5, T.sl_9, T.st_3, T.st_32, T.st_5, T.st_9, T.un_3, T.un_32, T.un_5, T.un_9, q0, q1, q7, q8, q9, hp2, app_str, mk_str, dA, dC, d5, wl1, wl2]
          have hmul : (255 - (s ++ (pp.1 ++ [46])).length) * (b.length + 1) + (b.length + 1) ≤ (255 - s.length) * (b.length + 1) := by
            rw [← Nat.succ_mul]; exact Nat.mul_le_mul_right _ (by omega)
          exact ⟨⟨s ++ (pp.1 ++ [46]), e, a, a + 1 + n, rfl, rfl, rfl, rfl, by omega, by omega, by omega, hUU, hg⟩, by omega⟩
      · rw [if_pos hp2] at hg
        have d5 := eq_false hp2
        simp (config := { dsimp := false, maxSteps := 10000000 }) (disch := omega) only [go_sem, reduceIte, Nat.reduceEqDiff, reduceCtorEq, Nat.reduceAdd, Nat.reduceMul, Int.reduceToNat, Int.reduceLE, Int.reduceLT, Int.reduceEq, Int.reduceNe, Nat.reduceLeDiff, Int.reducePow, Nat.reducePow, Nat.reduceLT, Nat.reduceSub, Nat.reduceMod, Nat.reduceDiv, slot_neg, slot_pos, T.ag_5, T.es_32, T.gf_27, T.ib_25, T.ib_3, T.ib_9, T.ii_3, T.ii_32, T.ii_5, T.ii_9, T.ip_25, T.ip_3, T.ip_9, T.s8_3, T.s8_32, T.s8_5, T.s8_9, T.sl_3, T.sl_32, T.sl_5, T.sl_9, T.st_3, T.st_32, T.st_5, T.st_9, T.un_3, T.un_32, T.un_5, T.un_9, q0, q1, q7, q8, q9, d5]
        rw [hg]; exact ⟨rfl, hUU⟩
    · have c1 : ((a : Int) < (b.length : Int)) = False := eq_false (by omega)
      rw [if_neg hab] at hg
      simp (config := { dsimp := false, maxSteps := 10000000 }) (disch := omega) only [go_sem, reduceIte, Nat.reduceEqDiff, reduceCtorEq, Nat.reduceAdd, Nat.reduceMul, Int.reduceToNat, Int.reduceLE, Int.reduceLT, Int.reduceEq, Int.reduceNe, Nat.reduceLeDiff, Int.reducePow, Nat.reducePow, Nat.reduceLT, Nat.reduceSub, Nat.reduceMod, Nat.reduceDiv, slot_neg, slot_pos, T.ag_5, T.es_32, T.gf_27, T.ib_25, T.ib_3, T.ib_9, T.ii_3, T.ii_32, T.ii_5, T.ii_9, T.ip_25, T.ip_3, T.ip_9, T.s8_3, T.s8_32, T.s8_5, T.s8_9, T.sl_3, T.sl_32, T.sl_5, T.sl_9, T.st_3, T.st_32, T.st_5, T.st_9, T.un_3, T.un_32, T.un_5, T.un_9, q0, q1, q7, q8, q9, c1, hv]
      rw [hg]; exact ⟨rfl, hU⟩
end Ph
