import Derived.Test.YtcbgjjbbeeoekaaDoorM10
set_option maxRecDepth 100000
set_option maxHeartbeats 4000000
set_option linter.unusedSimpArgs false
set_option linter.unusedVariables false
namespace Ph
open Go Go.Proofs
attribute [local irreducible] Value.cells
attribute [local go_sem ↓] y_move y_assign y_pick y_nil y_bin y_un y_fa y_field y_ext y_ia y_ix y_slice y_build y_mf y_rg y_nx y_en y_mm y_lk y_mu y_del y_load y_len y_cap y_min y_max y_conv y_bs y_mk y_alloc y_box y_store y_clear y_app y_callf y_callt s_move s_assign s_pick s_nil s_bin s_un s_fa s_field s_ext s_ia s_ix s_slice s_conv s_build s_bs s_mf s_alloc s_box s_rg s_nx s_en s_mm s_lk s_mu s_del s_load s_store s_len s_clear s_cap s_min s_max s_app s_call q_call q_move q_assign q_pick q_nil q_bin q_un q_fa q_field q_ext q_ia q_ix q_slice q_conv q_build q_mf q_lk q_load q_len q_cap q_min q_max l_nil l_move l_assign l_pick l_nilc l_bin l_un l_fa l_field l_ext l_ia l_ix l_slice l_conv l_build l_mf l_lk l_load l_len l_cap l_min l_max l_call put_eq putN_eq o_nil o_plain o_gate v_nil v_plain v_gate vc_skip vc_region vc_seq vc_cond vc_block vc_loop vc_rf vc_exit vc_ret blk_normal blk_ret blk_exit on_normal on_ret on_exit vc_drawn draw_q s_mk l_bs l_mk l_rg l_nx l_en l_mm l_mu l_del l_alloc l_box l_store l_app l_clear pl_done pl_takeS pl_take pl_alt pl_stop one_plain one_gate
attribute [local go_sem] clear_nil clear_sl onAgg_a onTuple_t onFn_f onFn_y onFunc_f c_int c_nil c_sl c_str sl_sl sl_nil sl_str ix_str ix_agg n_nil n_sl n_str app_eq app_eqZ k_nil k_sl cap_n len_sl len_str len_mn len_m onMap_m onIter_i rg_n rg_m nx_p en_p lk_n lk_m up_m setM_n setM_s del_n del_m kt_s kt_i upd_some upd_none ev_tmp ev_const ev_func rd_some gdst_eq otmp_t otmp_c get_put get_alloc next_put next_alloc get_app next_app init_a resV1 resV2 onPtr_ptr onBool_b onInt_i onSlice_s onSome_s onCells_c lett_eq gate_tt gate_tf gate_ff gate_ft gate_dt gate_df also_eq bin un minmax io_none io_some bo_none bo_some partOf List.getElem?_cons_zero List.getElem?_cons_succ List.getElem?_toArray Option.map_some Option.map_none Option.bind_some ne_eq not_true_eq_false not_false_eq_true false_implies true_implies and_true true_and and_self Bool.false_eq_true Nat.zero_add Nat.add_zero List.size_toArray List.length_cons List.length_nil List.map_toArray List.map_cons List.map_nil Array.getD_eq_getD_getElem? Option.getD_some Bool.not_true Bool.not_false Bool.not_eq_true Option.isNone_some Option.isNone_none List.append_toArray List.append_nil List.nil_append List.cons_append decide_true decide_false in_nil in_cons Bool.and_false Bool.and_true Bool.or_false Bool.true_or Bool.false_or get_mask next_mask get_unmask next_unmask ac_move ac_assign ac_pick ac_nil ac_bin ac_un ac_fa ac_field ac_ext ac_ia ac_ix ac_slice ac_build ac_mf ac_call ac_len ac_lk ac_cap ac_min ac_max accM_m accM_n accM_s accM_t ac_load ac_conv accP_p accS_s accS_n accS_i accS_t fixed_ro fixed_lock fixed_own get_ro next_ro lock_live' lock_cells List.mem_cons List.not_mem_nil or_false false_or or_true true_or and_false false_and IntKind.bits Int.natCast_zero Int.natCast_one size_str data_str list_str mk_str ext_str app_str bytes_str w_byte w_byteu Int.toNat_natCast Int.toNat_zero Int.toNat_one Nat.sub_zero ge_iff_le gt_iff_lt Nat.le_refl Int.le_refl List.drop_zero Int.ofNat_eq_natCast Int.natCast_nonneg Int.sub_zero oc_int oc_bool oc_str oc_ptr oc_sl oc_map oc_func List.set_cons_zero List.set_cons_succ Nat.mul_one List.all_cons List.all_nil Bool.and_self res_nil res_tmp res_cell tup_one tup_two tup_nil fill_nil repl_zero cells_agg List.append_eq List.toList_toArray Nat.zero_mul Nat.one_mul repl_one repl_two onSome_build fill_cons onSome_lit splice_eq cells_int cells_bool cells_str cells_ptr cells_sl cells_map cells_func loadK_n loadK_s load_k storeK_n storeK_s store_k all_arr List.take_zero List.take_succ_cons List.drop_succ_cons List.take_nil List.drop_nil lk_own lk_ro lk_lock lk_lk fixed_lk gate_nt gate_nf gate3_b gate3_u undef Bool.true_and Bool.false_and nx_l nx_r nx_lt put_put resV0
attribute [local go_sem] str_inj size_str
/-! The law's own question has its bytes. -/
def m0 : MsgV := ⟨0, false, 0, false, false, true, false, 0, [([97, 46], 1)], [], [], []⟩
theorem m0_put : m0.put = ([0, 0, 1, 0, 0, 1, 0, 0, 0, 0, 0, 0, 1, 97, 0, 0, 1, 0, 1], 0) := by decide +kernel
theorem inH_nil (H : Heap) : inH H (.slice none 0 0) := fun A n st e => (by cases e)
theorem asked_ph (h : Heap) : @CallsH Tryd.prog 4 #[] h ⟨fun u H => u = .bool true ∧ Upd h H []⟩ := by
  (refine calls_of_vc [] hm Tryd.func4 rfl (ts := [0]) rfl (by kernel_rfl) (by simp) ?_; simp (config := { dsimp := false, maxSteps := 10000000 }) (disch := omega) only [go_sem, reduceIte, Nat.reduceEqDiff, reduceCtorEq, Nat.reduceAdd, Nat.reduceMul, Int.reduceToNat, Int.reduceLE, Int.reduceLT, Int.reduceEq, Int.reduceNe, Nat.reduceLeDiff, Int.reducePow, Nat.reducePow, Nat.reduceLT, Nat.reduceSub, Nat.reduceMod, Nat.reduceDiv, slot_neg, slot_pos, T.eb_37, T.ez_37, T.gf_11, T.ib_25, T.ib_9, T.ii_32, T.ii_9, T.ip_25, T.ip_9, T.pl_36, T.pl_40, T.s8_32, T.s8_9, T.sl_32, T.sl_9, T.st_32, T.st_9, T.un_32, T.un_9, T.zo_36, T.zo_40, init_a, mk_str])
  have hU : Upd h (h.alloc (.cells [.string (str [97, 46]), .int .i64 1] .own)) [] := Upd.alloc _ _ _
  have hR : RowIn qE (h.alloc (.cells [.string (str [97, 46]), .int .i64 1] .own)) (.slice (some ⟨h.next, 0, none⟩) 1 2) [([97, 46], 1)] := .inr ⟨h.next, 0, [.string (str [97, 46]), .int .i64 1], .own, rfl, by rw [get_alloc, if_pos rfl], by simp [qE], by simp [Enc.flat, qE]⟩
  refine (msgPut_ph _ m0 (.slice (some ⟨h.next, 0, none⟩) 1 2) (.slice none 0 0) (.slice none 0 0) (.slice none 0 0) ⟨hR, .inl ⟨rfl, rfl⟩, .inl ⟨rfl, rfl⟩, .inl ⟨rfl, rfl⟩, fun A n st e => (by cases e; exact Nat.lt_succ_self _), inH_nil _, inH_nil _, inH_nil _⟩ ⟨fun q hq => by simp [m0] at hq; subst hq; decide, fun r hr => by simp [m0, MsgV.all] at hr, by decide⟩).mono fun u H ⟨hU2, hu, _⟩ => ?_
  rw [m0_put] at hu
  obtain ⟨v, D, rfl, hO, hD⟩ := hu rfl
  have hou := hO.row.one
  simp (config := { dsimp := false, maxSteps := 10000000 }) (disch := omega) only [go_sem, reduceIte, Nat.reduceEqDiff, reduceCtorEq, Nat.reduceAdd, Nat.reduceMul, Int.reduceToNat, Int.reduceLE, Int.reduceLT, Int.reduceEq, Int.reduceNe, Nat.reduceLeDiff, Int.reducePow, Nat.reducePow, Nat.reduceLT, Nat.reduceSub, Nat.reduceMod, Nat.reduceDiv, slot_neg, slot_pos, T.eb_37, T.ez_37, T.gf_11, T.ib_25, T.ib_9, T.ii_32, T.ii_9, T.ip_25, T.ip_9, T.pl_36, T.pl_40, T.s8_32, T.s8_9, T.sl_32, T.sl_9, T.st_32, T.st_9, T.un_32, T.un_9, T.zo_36, T.zo_40, hou.1, hou.2, conv_in hO.row, mk_str]
  exact hU.trans hU2 (by simp)
/-! Which name a record leads to; the serial of an SOA. -/
/-- the bytes of a name stand for it -/
theorem wire_stand : ∀ (ps : List (List UInt8)) (b r : List UInt8) (bf a : Nat), (∀ p ∈ ps, okPart p = true) → b.drop a = wireP ps ++ 0 :: r → Stand b bf a (restD ps) (a + (wireP ps).length + 1)
  | [], b, r, bf, a, _, h => .root h
  | p :: ps, b, r, bf, a, hok, h => by
    have hw : wireP (p :: ps) = UInt8.ofNat p.length :: (p ++ wireP ps) := rfl
    rw [hw] at h ⊢
    have h2 : b.drop a = UInt8.ofNat p.length :: (p ++ (wireP ps ++ 0 :: r)) := by rw [h]; simp
    have h3 : b.drop (a + 1 + p.length) = wireP ps ++ 0 :: r := by
      rw [show a + 1 + p.length = a + (1 + p.length) from by omega, ← List.drop_drop, h2, Nat.add_comm 1, List.drop_succ_cons]
      exact List.drop_left
    have ih := wire_stand ps b r a (a + 1 + p.length) (fun q hq => hok q (List.mem_cons_of_mem _ hq)) h3
    have e : a + (UInt8.ofNat p.length :: (p ++ wireP ps)).length + 1 = a + 1 + p.length + (wireP ps).length + 1 := by simp; omega
    rw [e]
    exact .part (hok p List.mem_cons_self) h2 ih
/-- a whole name ahead in the rest of bytes is got at its place -/
theorem plain_get {b : List UInt8} {k : Nat} (hk : k ≤ b.length) (h : 0 < plainN (b.drop k)) : (getT b (k : Int)).1 = (getS (b.drop k) [] 0 0 0).1 ∧ (getT b (k : Int)).2.2 = 0 ∧ (getS (b.drop k) [] 0 0 0).2.2 = 0 := by
  unfold plainN at h
  split at h
  · exact absurd h (Nat.lt_irrefl _)
  rename_i h0
  have h0 := Classical.not_not.1 h0
  split at h
  · exact absurd h (Nat.lt_irrefl _)
  rename_i w hw
  split at h
  · rename_i h1
    unfold wireS at hw
    obtain ⟨ps, hn, rfl⟩ := Option.map_eq_some_iff.1 hw
    have hok := (name_ok hn).2
    have hd : b.drop k = wireP ps ++ 0 :: (b.drop k).drop (wireP ps ++ [0]).length := by
      have := (List.take_append_drop (wireP ps ++ [0]).length (b.drop k)).symm
      rw [h1.2] at this
      simpa using this
    have hl := name_len hn
    rw [← rest_len] at hl
    have s1 := wire_stand ps b _ k k hok hd
    have s2 := wire_stand ps (b.drop k) _ 0 0 hok (by rw [List.drop_zero]; exact hd)
    have g1 := getS_stand s1 [] 0 (by simpa using hl)
    have g2 := getS_stand s2 [] 0 (by simpa using hl)
    unfold getT
    rw [if_neg (by omega), Int.toNat_natCast, g1, g2]
    exact ⟨rfl, rfl, rfl⟩
  · exact absurd h (Nat.lt_irrefl _)
def targetS (r : Rec) : List UInt8 × Int :=
  if recOk r = true then (if r.2.1 = 15 then ((getS (r.2.2.2.drop 2) [] 0 0 0).1, 0) else if r.2.1 = 2 ∨ r.2.1 = 5 ∨ r.2.1 = 6 then ((getS r.2.2.2 [] 0 0 0).1, 0) else ([], 8)) else ([], 2)
theorem rightD_2 {d : List UInt8} (h : rightD 2 d = true ∨ rightD 5 d = true ∨ rightD 6 d = true) : 0 < plainN (d.drop 0) := by
  rw [List.drop_zero]
  unfold rightD at h
  simp at h
  omega
theorem rightD_15 {d : List UInt8} (h : rightD 15 d = true) : 2 < d.length ∧ 0 < plainN (d.drop 2) := by
  unfold rightD at h
  simp at h
  omega
theorem Target_ph (h : Heap) (r : Rec) (h1 : r.1.length ≤ 1099511627776) (h2 : r.2.2.2.length ≤ 1099511627776) : @CallsH Tryd.prog 7 #[.agg (recE.enc r).toArray] h ⟨fun u H => u = .tuple #[.string (str (targetS r).1), .int .i64 (targetS r).2] ∧ Upd h H []⟩ := by
  obtain ⟨nm, ty, tl, da⟩ := r
  show @CallsH _ _ #[.agg #[.string (str nm), .int .i64 ty, .int .i64 tl, .string (str da)]] h ⟨_⟩
  have hU0 : Upd h (h.alloc (.cells [.string (str nm), .int .i64 ty, .int .i64 tl, .string (str da)] .own)) [] := Upd.alloc _ _ _
  (refine calls_of_vc [] hm Tryd.func7 rfl (ts := [2, 3]) rfl (by kernel_rfl) (by simp) ?_; simp (config := { dsimp := false, maxSteps := 10000000 }) (disch := omega) only [go_sem, reduceIte, Nat.reduceEqDiff, reduceCtorEq, Nat.reduceAdd, Nat.reduceMul, Int.reduceToNat, Int.reduceLE, Int.reduceLT, Int.reduceEq, Int.reduceNe, Nat.reduceLeDiff, Int.reducePow, Nat.reducePow, Nat.reduceLT, Nat.reduceSub, Nat.reduceMod, Nat.reduceDiv, slot_neg, slot_pos, T.ag_23, T.ag_3, T.ag_9, T.fo_23_1, T.fo_23_3, T.gf_16, T.gf_5, T.ib_25, T.ib_3, T.ii_32, T.ii_9, T.ip_25, T.ip_3, T.s8_32, T.s8_9, T.sl_32, T.sl_9, T.st_32, T.st_9, T.un_32, T.un_9, init_a, mk_str])
  refine (Check_ph _ (nm, ty, tl, da) h1 h2).mono fun u H ⟨hu, hU1⟩ => ?_
  subst hu
  have hU := hU0.trans hU1 (by simp)
  have hg : H.get h.next = .live (.cells [.string (str nm), .int .i64 ty, .int .i64 tl, .string (str da)] .own) := (hU1.2 h.next (Nat.lt_succ_self _) (by simp)).trans (by rw [get_alloc, if_pos rfl])
  unfold targetS
  dsimp only at h1 h2 ⊢
  cases hk : recOk (nm, ty, tl, da) with
  | false =>
    simp (config := { dsimp := false, maxSteps := 10000000 }) (disch := omega) only [go_sem, reduceIte, Nat.reduceEqDiff, reduceCtorEq, Nat.reduceAdd, Nat.reduceMul, Int.reduceToNat, Int.reduceLE, Int.reduceLT, Int.reduceEq, Int.reduceNe, Nat.reduceLeDiff, Int.reducePow, Nat.reducePow, Nat.reduceLT, Nat.reduceSub, Nat.reduceMod, Nat.reduceDiv, slot_neg, slot_pos, T.ag_23, T.ag_3, T.ag_9, T.fo_23_1, T.fo_23_3, T.gf_16, T.gf_5, T.ib_25, T.ib_3, T.ii_32, T.ii_9, T.ip_25, T.ip_3, T.s8_32, T.s8_9, T.sl_32, T.sl_9, T.st_32, T.st_9, T.un_32, T.un_9, mk_str]
    exact hU
  | true =>
    have hrd : rightD ty da = true := by unfold recOk at hk; simp only [Bool.and_eq_true] at hk; exact hk.2.2.2.2
    have hda : da.length ≤ 1000 := by unfold recOk at hk; simp only [Bool.and_eq_true, decide_eq_true_eq] at hk; exact hk.2.2.2.1
    rw [if_pos rfl]
    have hrow : RowIn u8E (H.alloc (.cells (bc da) .own)) (.slice (some ⟨H.next, 0, none⟩) da.length 1) da := .inr ⟨H.next, 0, bc da, .own, rfl, by rw [get_alloc, if_pos rfl], by rw [show u8E.k = 1 from rfl, Nat.mul_one, Nat.zero_add, bc_len]; exact Nat.le_refl _, by rw [show u8E.k = 1 from rfl, Nat.mul_one, u8_flat, List.drop_zero, List.take_of_length_le (by rw [bc_len]; exact Nat.le_refl _)]⟩
    by_cases k15 : ty = 15
    · subst k15
      obtain ⟨a1, a2⟩ := rightD_15 hrd
      obtain ⟨b1, b2, b3⟩ := plain_get (by omega) a2
      rw [if_pos rfl]
      simp (config := { dsimp := false, maxSteps := 10000000 }) (disch := omega) only [go_sem, reduceIte, Nat.reduceEqDiff, reduceCtorEq, Nat.reduceAdd, Nat.reduceMul, Int.reduceToNat, Int.reduceLE, Int.reduceLT, Int.reduceEq, Int.reduceNe, Nat.reduceLeDiff, Int.reducePow, Nat.reducePow, Nat.reduceLT, Nat.reduceSub, Nat.reduceMod, Nat.reduceDiv, slot_neg, slot_pos, T.ag_23, T.ag_3, T.ag_9, T.fo_23_1, T.fo_23_3, T.gf_16, T.gf_5, T.ib_25, T.ib_3, T.ii_32, T.ii_9, T.ip_25, T.ip_3, T.s8_32, T.s8_9, T.sl_32, T.sl_9, T.st_32, T.st_9, T.un_32, T.un_9, hg, mk_str]
      refine ⟨by omega, (Get_ph _ _ da 2 hrow (fun A n st e => by cases e; exact Nat.lt_succ_self _) (by omega)).mono fun u H2 ⟨hu, hU2⟩ => ?_⟩
      subst hu
      rw [show (2 : Int) = ((2 : Nat) : Int) from rfl, b1, b2]
      simp (config := { dsimp := false, maxSteps := 10000000 }) (disch := omega) only [go_sem, reduceIte, Nat.reduceEqDiff, reduceCtorEq, Nat.reduceAdd, Nat.reduceMul, Int.reduceToNat, Int.reduceLE, Int.reduceLT, Int.reduceEq, Int.reduceNe, Nat.reduceLeDiff, Int.reducePow, Nat.reducePow, Nat.reduceLT, Nat.reduceSub, Nat.reduceMod, Nat.reduceDiv, slot_neg, slot_pos, T.ag_23, T.ag_3, T.ag_9, T.fo_23_1, T.fo_23_3, T.gf_16, T.gf_5, T.ib_25, T.ib_3, T.ii_32, T.ii_9, T.ip_25, T.ip_3, T.s8_32, T.s8_9, T.sl_32, T.sl_9, T.st_32, T.st_9, T.un_32, T.un_9]
      exact (hU.trans (Upd.alloc _ _ []) (by simp)).trans hU2 (by simp)
    have f15 := eq_false k15
    rw [if_neg k15]
    by_cases k256 : ty = 2 ∨ ty = 5 ∨ ty = 6
    · rw [if_pos k256]
      have a2 := rightD_2 (d := da) (by rcases k256 with rfl | rfl | rfl; exact .inl hrd; exact .inr (.inl hrd); exact .inr (.inr hrd))
      obtain ⟨b1, b2, b3⟩ := plain_get (Nat.zero_le _) a2
      rcases k256 with rfl | rfl | rfl
      · simp (config := { dsimp := false, maxSteps := 10000000 }) (disch := omega) only [go_sem, reduceIte, Nat.reduceEqDiff, reduceCtorEq, Nat.reduceAdd, Nat.reduceMul, Int.reduceToNat, Int.reduceLE, Int.reduceLT, Int.reduceEq, Int.reduceNe, Nat.reduceLeDiff, Int.reducePow, Nat.reducePow, Nat.reduceLT, Nat.reduceSub, Nat.reduceMod, Nat.reduceDiv, slot_neg, slot_pos, T.ag_23, T.ag_3, T.ag_9, T.fo_23_1, T.fo_23_3, T.gf_16, T.gf_5, T.ib_25, T.ib_3, T.ii_32, T.ii_9, T.ip_25, T.ip_3, T.s8_32, T.s8_9, T.sl_32, T.sl_9, T.st_32, T.st_9, T.un_32, T.un_9, hg, mk_str]
        refine ⟨by omega, (Get_ph _ _ da 0 hrow (fun A n st e => by cases e; exact Nat.lt_succ_self _) (by omega)).mono fun u H2 ⟨hu, hU2⟩ => ?_⟩
        subst hu
        rw [show (0 : Int) = ((0 : Nat) : Int) from rfl, b1, b2]
        simp (config := { dsimp := false, maxSteps := 10000000 }) (disch := omega) only [go_sem, reduceIte, Nat.reduceEqDiff, reduceCtorEq, Nat.reduceAdd, Nat.reduceMul, Int.reduceToNat, Int.reduceLE, Int.reduceLT, Int.reduceEq, Int.reduceNe, Nat.reduceLeDiff, Int.reducePow, Nat.reducePow, Nat.reduceLT, Nat.reduceSub, Nat.reduceMod, Nat.reduceDiv, slot_neg, slot_pos, T.ag_23, T.ag_3, T.ag_9, T.fo_23_1, T.fo_23_3, T.gf_16, T.gf_5, T.ib_25, T.ib_3, T.ii_32, T.ii_9, T.ip_25, T.ip_3, T.s8_32, T.s8_9, T.sl_32, T.sl_9, T.st_32, T.st_9, T.un_32, T.un_9]
        exact (hU.trans (Upd.alloc _ _ []) (by simp)).trans hU2 (by simp)
      · simp (config := { dsimp := false, maxSteps := 10000000 }) (disch := omega) only [go_sem, reduceIte, Nat.reduceEqDiff, reduceCtorEq, Nat.reduceAdd, Nat.reduceMul, Int.reduceToNat, Int.reduceLE, Int.reduceLT, Int.reduceEq, Int.reduceNe, Nat.reduceLeDiff, Int.reducePow, Nat.reducePow, Nat.reduceLT, Nat.reduceSub, Nat.reduceMod, Nat.reduceDiv, slot_neg, slot_pos, T.ag_23, T.ag_3, T.ag_9, T.fo_23_1, T.fo_23_3, T.gf_16, T.gf_5, T.ib_25, T.ib_3, T.ii_32, T.ii_9, T.ip_25, T.ip_3, T.s8_32, T.s8_9, T.sl_32, T.sl_9, T.st_32, T.st_9, T.un_32, T.un_9, hg, mk_str]
        refine ⟨by omega, (Get_ph _ _ da 0 hrow (fun A n st e => by cases e; exact Nat.lt_succ_self _) (by omega)).mono fun u H2 ⟨hu, hU2⟩ => ?_⟩
        subst hu
        rw [show (0 : Int) = ((0 : Nat) : Int) from rfl, b1, b2]
        simp (config := { dsimp := false, maxSteps := 10000000 }) (disch := omega) only [go_sem, reduceIte, Nat.reduceEqDiff, reduceCtorEq, Nat.reduceAdd, Nat.reduceMul, Int.reduceToNat, Int.reduceLE, Int.reduceLT, Int.reduceEq, Int.reduceNe, Nat.reduceLeDiff, Int.reducePow, Nat.reducePow, Nat.reduceLT, Nat.reduceSub, Nat.reduceMod, Nat.reduceDiv, slot_neg, slot_pos, T.ag_23, T.ag_3, T.ag_9, T.fo_23_1, T.fo_23_3, T.gf_16, T.gf_5, T.ib_25, T.ib_3, T.ii_32, T.ii_9, T.ip_25, T.ip_3, T.s8_32, T.s8_9, T.sl_32, T.sl_9, T.st_32, T.st_9, T.un_32, T.un_9]
        exact (hU.trans (Upd.alloc _ _ []) (by simp)).trans hU2 (by simp)
      · simp (config := { dsimp := false, maxSteps := 10000000 }) (disch := omega) only [go_sem, reduceIte, Nat.reduceEqDiff, reduceCtorEq, Nat.reduceAdd, Nat.reduceMul, Int.reduceToNat, Int.reduceLE, Int.reduceLT, Int.reduceEq, Int.reduceNe, Nat.reduceLeDiff, Int.reducePow, Nat.reducePow, Nat.reduceLT, Nat.reduceSub, Nat.reduceMod, Nat.reduceDiv, slot_neg, slot_pos, T.ag_23, T.ag_3, T.ag_9, T.fo_23_1, T.fo_23_3, T.gf_16, T.gf_5, T.ib_25, T.ib_3, T.ii_32, T.ii_9, T.ip_25, T.ip_3, T.s8_32, T.s8_9, T.sl_32, T.sl_9, T.st_32, T.st_9, T.un_32, T.un_9, hg, mk_str]
        refine ⟨by omega, (Get_ph _ _ da 0 hrow (fun A n st e => by cases e; exact Nat.lt_succ_self _) (by omega)).mono fun u H2 ⟨hu, hU2⟩ => ?_⟩
        subst hu
        rw [show (0 : Int) = ((0 : Nat) : Int) from rfl, b1, b2]
        simp (config := { dsimp := false, maxSteps := 10000000 }) (disch := omega) only [go_sem, reduceIte, Nat.reduceEqDiff, reduceCtorEq, Nat.reduceAdd, Nat.reduceMul, Int.reduceToNat, Int.reduceLE, Int.reduceLT, Int.reduceEq, Int.reduceNe, Nat.reduceLeDiff, Int.reducePow, Nat.reducePow, Nat.reduceLT, Nat.reduceSub, Nat.reduceMod, Nat.reduceDiv, slot_neg, slot_pos, T.ag_23, T.ag_3, T.ag_9, T.fo_23_1, T.fo_23_3, T.gf_16, T.gf_5, T.ib_25, T.ib_3, T.ii_32, T.ii_9, T.ip_25, T.ip_3, T.s8_32, T.s8_9, T.sl_32, T.sl_9, T.st_32, T.st_9, T.un_32, T.un_9]
        exact (hU.trans (Upd.alloc _ _ []) (by simp)).trans hU2 (by simp)
    · rw [if_neg k256]
      have f2 : (ty = 2) = False := eq_false fun e => k256 (.inl e)
      have f5 : (ty = 5) = False := eq_false fun e => k256 (.inr (.inl e))
      have f6 : (ty = 6) = False := eq_false fun e => k256 (.inr (.inr e))
      simp (config := { dsimp := false, maxSteps := 10000000 }) (disch := omega) only [go_sem, reduceIte, Nat.reduceEqDiff, reduceCtorEq, Nat.reduceAdd, Nat.reduceMul, Int.reduceToNat, Int.reduceLE, Int.reduceLT, Int.reduceEq, Int.reduceNe, Nat.reduceLeDiff, Int.reducePow, Nat.reducePow, Nat.reduceLT, Nat.reduceSub, Nat.reduceMod, Nat.reduceDiv, slot_neg, slot_pos, T.ag_23, T.ag_3, T.ag_9, T.fo_23_1, T.fo_23_3, T.gf_16, T.gf_5, T.ib_25, T.ib_3, T.ii_32, T.ii_9, T.ip_25, T.ip_3, T.s8_32, T.s8_9, T.sl_32, T.sl_9, T.st_32, T.st_9, T.un_32, T.un_9, hg, mk_str, f15, f2, f5, f6]
      exact hU
/-- four bytes, the highest first -/
def fourS (d : List UInt8) (i : Nat) : Nat := (((d.getD i 0).toNat * 256 + (d.getD (i + 1) 0).toNat) * 256 + (d.getD (i + 2) 0).toNat) * 256 + (d.getD (i + 3) 0).toNat
def serialS (r : Rec) : Int × Int := if recOk r = true then (if r.2.1 = 6 then ((fourS r.2.2.2 (r.2.2.2.length - 20) : Nat), 0) else (0, 8)) else (0, 2)
theorem or64 {a b : Nat} (k : Nat) (hb : b < 2 ^ k) (hs : a * 2 ^ k + b < 9223372036854775808) : IntKind.i64.wrap ((BitVec.ofInt IntKind.i64.bits ((a * 2 ^ k : Nat) : Int) ||| BitVec.ofInt IntKind.i64.bits (b : Int)).toNat : Int) = ((a * 2 ^ k + b : Nat) : Int) := by
  have e1 : (BitVec.ofInt IntKind.i64.bits ((a * 2 ^ k : Nat) : Int)).toNat = a * 2 ^ k := by rw [BitVec.ofInt_natCast, BitVec.toNat_ofNat]; exact Nat.mod_eq_of_lt (by show _ < 2 ^ 64; omega)
  have e2 : (BitVec.ofInt IntKind.i64.bits (b : Int)).toNat = b := by rw [BitVec.ofInt_natCast, BitVec.toNat_ofNat]; exact Nat.mod_eq_of_lt (by show _ < 2 ^ 64; omega)
  rw [BitVec.toNat_or, e1, e2, ← Nat.shiftLeft_eq, ← Nat.shiftLeft_add_eq_or_of_lt hb, Nat.shiftLeft_eq, i64wrap (by omega) (by omega)]
theorem four_or (c0 c1 c2 c3 : Nat) (h0 : c0 < 256) (h1 : c1 < 256) (h2 : c2 < 256) (h3 : c3 < 256) : IntKind.i64.wrap ((BitVec.ofInt IntKind.i64.bits (IntKind.i64.wrap ((BitVec.ofInt IntKind.i64.bits (IntKind.i64.wrap ((BitVec.ofInt IntKind.i64.bits (IntKind.i64.wrap ((c0 : Int) * 2 ^ min 24 64)) ||| BitVec.ofInt IntKind.i64.bits (IntKind.i64.wrap ((c1 : Int) * 2 ^ min 16 64))).toNat : Int)) ||| BitVec.ofInt IntKind.i64.bits (IntKind.i64.wrap ((c2 : Int) * 2 ^ min 8 64))).toNat : Int)) ||| BitVec.ofInt IntKind.i64.bits (c3 : Int)).toNat : Int) = ((((c0 * 256 + c1) * 256 + c2) * 256 + c3 : Nat) : Int) := by
  have w0 : IntKind.i64.wrap ((c0 : Int) * 2 ^ min 24 64) = ((c0 * 2 ^ 24 : Nat) : Int) := by rw [show min 24 64 = 24 from rfl, i64wrap (by omega) (by omega)]; omega
  have w1 : IntKind.i64.wrap ((c1 : Int) * 2 ^ min 16 64) = ((c1 * 65536 : Nat) : Int) := by rw [show min 16 64 = 16 from rfl, i64wrap (by omega) (by omega)]; omega
  have w2 : IntKind.i64.wrap ((c2 : Int) * 2 ^ min 8 64) = ((c2 * 256 : Nat) : Int) := by rw [show min 8 64 = 8 from rfl, i64wrap (by omega) (by omega)]; omega
  rw [w0, w1, w2, or64 24 (by omega) (by omega), show c0 * 2 ^ 24 + c1 * 65536 = (c0 * 256 + c1) * 2 ^ 16 from by omega, or64 16 (by omega) (by omega), show (c0 * 256 + c1) * 2 ^ 16 + c2 * 256 = ((c0 * 256 + c1) * 256 + c2) * 2 ^ 8 from by omega, or64 8 (by omega) (by omega)]
theorem drop_getD (d : List UInt8) (n j : Nat) : (d.drop n).getD j 0 = d.getD (n + j) 0 := by simp [List.getD_eq_getElem?_getD, List.getElem?_drop]
theorem rightD_6 {d : List UInt8} (h : rightD 6 d = true) : 22 ≤ d.length := by
  unfold rightD at h
  simp at h
  omega
theorem Serial_ph (h : Heap) (r : Rec) (h1 : r.1.length ≤ 1099511627776) (h2 : r.2.2.2.length ≤ 1099511627776) : @CallsH Tryd.prog 9 #[.agg (recE.enc r).toArray] h ⟨fun u H => u = .tuple #[.int .i64 (serialS r).1, .int .i64 (serialS r).2] ∧ Upd h H []⟩ := by
  obtain ⟨nm, ty, tl, da⟩ := r
  show @CallsH _ _ #[.agg #[.string (str nm), .int .i64 ty, .int .i64 tl, .string (str da)]] h ⟨_⟩
  have hU0 : Upd h (h.alloc (.cells [.string (str nm), .int .i64 ty, .int .i64 tl, .string (str da)] .own)) [] := Upd.alloc _ _ _
  (refine calls_of_vc [] hm Tryd.func9 rfl (ts := [2, 3]) rfl (by kernel_rfl) (by simp) ?_; simp (config := { dsimp := false, maxSteps := 10000000 }) (disch := omega) only [go_sem, reduceIte, Nat.reduceEqDiff, reduceCtorEq, Nat.reduceAdd, Nat.reduceMul, Int.reduceToNat, Int.reduceLE, Int.reduceLT, Int.reduceEq, Int.reduceNe, Nat.reduceLeDiff, Int.reducePow, Nat.reducePow, Nat.reduceLT, Nat.reduceSub, Nat.reduceMod, Nat.reduceDiv, slot_neg, slot_pos, T.ag_23, T.ag_3, T.ag_9, T.es_9, T.fo_23_1, T.fo_23_3, T.gf_5, T.ib_25, T.ib_3, T.ii_3, T.ii_5, T.ii_9, T.ip_25, T.ip_3, T.s8_3, T.s8_5, T.s8_9, T.sl_3, T.sl_5, T.sl_9, T.st_3, T.st_5, T.st_9, T.un_3, T.un_5, T.un_9, init_a])
  refine (Check_ph _ (nm, ty, tl, da) h1 h2).mono fun u H ⟨hu, hU1⟩ => ?_
  subst hu
  have hU := hU0.trans hU1 (by simp)
  have hg : H.get h.next = .live (.cells [.string (str nm), .int .i64 ty, .int .i64 tl, .string (str da)] .own) := (hU1.2 h.next (Nat.lt_succ_self _) (by simp)).trans (by rw [get_alloc, if_pos rfl])
  unfold serialS
  dsimp only at h1 h2 ⊢
  cases hk : recOk (nm, ty, tl, da) with
  | false =>
    simp (config := { dsimp := false, maxSteps := 10000000 }) (disch := omega) only [go_sem, reduceIte, Nat.reduceEqDiff, reduceCtorEq, Nat.reduceAdd, Nat.reduceMul, Int.reduceToNat, Int.reduceLE, Int.reduceLT, Int.reduceEq, Int.reduceNe, Nat.reduceLeDiff, Int.reducePow, Nat.reducePow, Nat.reduceLT, Nat.reduceSub, Nat.reduceMod, Nat.reduceDiv, slot_neg, slot_pos, T.ag_23, T.ag_3, T.ag_9, T.es_9, T.fo_23_1, T.fo_23_3, T.gf_5, T.ib_25, T.ib_3, T.ii_3, T.ii_5, T.ii_9, T.ip_25, T.ip_3, T.s8_3, T.s8_5, T.s8_9, T.sl_3, T.sl_5, T.sl_9, T.st_3, T.st_5, T.st_9, T.un_3, T.un_5, T.un_9]
    exact hU
  | true =>
    have hrd : rightD ty da = true := by unfold recOk at hk; simp only [Bool.and_eq_true] at hk; exact hk.2.2.2.2
    have hda : da.length ≤ 1000 := by unfold recOk at hk; simp only [Bool.and_eq_true, decide_eq_true_eq] at hk; exact hk.2.2.2.1
    rw [if_pos rfl]
    by_cases k6 : ty = 6
    · subst k6
      have hl := rightD_6 hrd
      have ws : IntKind.i64.wrap ((da.length : Int) - 20) = ((da.length - 20 : Nat) : Int) := by rw [i64wrap] <;> omega
      have htk : List.take (da.length - (da.length - 20)) (List.drop (da.length - 20) da) = da.drop (da.length - 20) := List.take_of_length_le (by rw [List.length_drop]; exact Nat.le_refl _)
      rw [if_pos rfl]
      simp (config := { dsimp := false, maxSteps := 10000000 }) (disch := omega) only [go_sem, reduceIte, Nat.reduceEqDiff, reduceCtorEq, Nat.reduceAdd, Nat.reduceMul, Int.reduceToNat, Int.reduceLE, Int.reduceLT, Int.reduceEq, Int.reduceNe, Nat.reduceLeDiff, Int.reducePow, Nat.reducePow, Nat.reduceLT, Nat.reduceSub, Nat.reduceMod, Nat.reduceDiv, slot_neg, slot_pos, T.ag_23, T.ag_3, T.ag_9, T.es_9, T.fo_23_1, T.fo_23_3, T.gf_5, T.ib_25, T.ib_3, T.ii_3, T.ii_5, T.ii_9, T.ip_25, T.ip_3, T.s8_3, T.s8_5, T.s8_9, T.sl_3, T.sl_5, T.sl_9, T.st_3, T.st_5, T.st_9, T.un_3, T.un_5, T.un_9, hg, ws, htk]
      have hdl : (da.drop (da.length - 20)).length = 20 := by rw [List.length_drop]; omega
      rw [hdl, four_or _ _ _ _ (UInt8.toNat_lt _) (UInt8.toNat_lt _) (UInt8.toNat_lt _) (UInt8.toNat_lt _)]
      simp only [drop_getD, Nat.add_zero]
      exact ⟨by omega, by decide, by decide, by decide, by decide, rfl, hU⟩
    · rw [if_neg k6]
      have f6 := eq_false k6
      simp (config := { dsimp := false, maxSteps := 10000000 }) (disch := omega) only [go_sem, reduceIte, Nat.reduceEqDiff, reduceCtorEq, Nat.reduceAdd, Nat.reduceMul, Int.reduceToNat, Int.reduceLE, Int.reduceLT, Int.reduceEq, Int.reduceNe, Nat.reduceLeDiff, Int.reducePow, Nat.reducePow, Nat.reduceLT, Nat.reduceSub, Nat.reduceMod, Nat.reduceDiv, slot_neg, slot_pos, T.ag_23, T.ag_3, T.ag_9, T.es_9, T.fo_23_1, T.fo_23_3, T.gf_5, T.ib_25, T.ib_3, T.ii_3, T.ii_5, T.ii_9, T.ip_25, T.ip_3, T.s8_3, T.s8_5, T.s8_9, T.sl_3, T.sl_5, T.sl_9, T.st_3, T.st_5, T.st_9, T.un_3, T.un_5, T.un_9, hg, f6]
      exact hU
end Ph
