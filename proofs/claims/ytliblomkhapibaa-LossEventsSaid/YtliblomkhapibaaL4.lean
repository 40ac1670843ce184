import Derived.Test.YtliblomkhapibaaL3
set_option maxRecDepth 100000
set_option maxHeartbeats 1000000
set_option linter.unusedSimpArgs false
set_option linter.unusedVariables false
namespace Ph
open Go Go.Proofs
attribute [local irreducible] Value.cells
attribute [local go_sem ↓] y_move y_assign y_pick y_nil y_bin y_un y_fa y_field y_ext y_ia y_ix y_slice y_build y_mf y_load y_len y_min y_max y_conv y_bs y_mk y_alloc y_box y_store y_clear y_app y_callf y_callt s_move s_assign s_pick s_nil s_bin s_un s_fa s_field s_ext s_ia s_ix s_slice s_conv s_build s_bs s_mf s_alloc s_box s_load s_store s_len s_clear s_min s_max s_app s_call q_call q_move q_assign q_pick q_nil q_bin q_un q_fa q_field q_ext q_ia q_ix q_slice q_conv q_build q_mf q_load q_len q_min q_max l_nil l_move l_assign l_pick l_nilc l_bin l_un l_fa l_field l_ext l_ia l_ix l_slice l_conv l_build l_mf l_load l_len l_min l_max l_call put_eq putN_eq o_nil o_plain o_gate v_nil v_plain v_gate vc_skip vc_region vc_seq vc_cond vc_block vc_loop vc_rf vc_exit vc_ret blk_normal blk_ret blk_exit on_normal on_ret on_exit vc_drawn draw_q s_mk l_bs l_mk l_alloc l_box l_store l_app l_clear pl_done pl_takeS pl_take pl_alt pl_stop one_plain one_gate
attribute [local go_sem] clear_nil clear_sl onAgg_a onTuple_t onFn_f onFn_y onFunc_f c_int c_nil c_sl c_str sl_sl sl_nil sl_str ix_str ix_agg n_nil n_sl n_str app_eq k_nil k_sl len_sl len_str upd_some upd_none ev_tmp ev_const ev_func rd_some gdst_eq otmp_t otmp_c get_put get_alloc next_put next_alloc get_app next_app init_a resV1 resV2 onPtr_ptr onBool_b onInt_i onSlice_s onSome_s onCells_c lett_eq gate_tt gate_tf gate_ff gate_ft gate_dt gate_df also_eq bin un minmax io_none io_some bo_none bo_some partOf List.getElem?_cons_zero List.getElem?_cons_succ List.getElem?_toArray Option.map_some Option.map_none Option.bind_some ne_eq not_true_eq_false not_false_eq_true false_implies true_implies and_true true_and and_self Bool.false_eq_true Nat.zero_add Nat.add_zero List.size_toArray List.length_cons List.length_nil List.map_toArray List.map_cons List.map_nil Array.getD_eq_getD_getElem? Option.getD_some Bool.not_true Bool.not_false Bool.not_eq_true Option.isNone_some Option.isNone_none List.append_toArray List.append_nil List.nil_append List.cons_append decide_true decide_false in_nil in_cons Bool.and_false Bool.and_true Bool.or_false Bool.true_or Bool.false_or get_mask next_mask get_unmask next_unmask ac_move ac_assign ac_pick ac_nil ac_bin ac_un ac_fa ac_field ac_ext ac_ia ac_ix ac_slice ac_build ac_mf ac_call ac_load ac_conv accP_p accS_s accS_n accS_i accS_t fixed_ro fixed_lock fixed_own get_ro next_ro lock_live' lock_cells List.mem_cons List.not_mem_nil or_false false_or or_true true_or and_false false_and IntKind.bits Int.natCast_zero Int.natCast_one size_str data_str list_str mk_str ext_str app_str bytes_str w_byte w_byteu Int.toNat_natCast Int.toNat_zero Int.toNat_one Nat.sub_zero ge_iff_le gt_iff_lt Nat.le_refl Int.le_refl List.drop_zero Int.ofNat_eq_natCast Int.natCast_nonneg Int.sub_zero oc_int oc_bool oc_str oc_ptr oc_sl oc_map oc_func List.set_cons_zero List.set_cons_succ Nat.mul_one List.all_cons List.all_nil Bool.and_self res_nil res_tmp res_cell tup_one tup_two tup_nil fill_nil repl_zero cells_agg List.append_eq List.toList_toArray Nat.zero_mul Nat.one_mul repl_one repl_two onSome_build fill_cons onSome_lit splice_eq cells_int cells_bool cells_str cells_ptr cells_sl cells_map cells_func loadK_n loadK_s load_k storeK_n storeK_s store_k all_arr List.take_zero List.take_succ_cons List.drop_succ_cons List.take_nil List.drop_nil lk_own lk_ro lk_lock lk_lk fixed_lk gate_nt gate_nf gate3_b gate3_u undef Bool.true_and Bool.false_and nx_l nx_r nx_lt put_put resV0
theorem outf1_ph (H : Heap) (b3 b5 b2 p : Nat) (x : Pk) (gi : Nat) (capi : Array Value) (pr : Bool) (lv wv : Value) (D : List Nat) (lst : List Pk) (s : St)
    (o2 o3 : Own) (h3 : H.get b3 = .live (.cells [.func (.func gi) #[] capi] o3)) (h5 : H.get b5 = .live (.cells [lv] .own)) (h2 : H.get b2 = .live (.cells [.pointer (some ⟨p, 0, none⟩)] o2)) (hp : H.get p = .live (.cells (stC wv s) .own))
    (hO : OwnRow pkE H lv D lst) (hll : lst.length ≤ 100000) (hgi : goodFunc Try.prog gi = true) (hn : b3 < H.next ∧ b5 < H.next ∧ b2 < H.next ∧ p < H.next) (hne : b5 ≠ p ∧ b5 ≠ b2 ∧ b2 ≠ p) (hD : b5 ∉ D ∧ p ∉ D ∧ b2 ∉ D)
    (hfl : -1000000000000000 ≤ s.flight ∧ s.flight ≤ 1000000000000000 ∧ -1000000000000000 ≤ x.size ∧ x.size ≤ 1000000000000000)
    (his : @CallsH Try.prog gi (#[.agg (pkE.enc x).toArray] ++ capi) (H.alloc (.cells (pkE.enc x) .own)).ro ⟨fun u _ => u = .bool pr⟩) :
    @CallsH Try.prog 47 (#[.agg (pkE.enc x).toArray] ++ #[.pointer (some ⟨b3, 0, none⟩), .pointer (some ⟨b5, 0, none⟩), .pointer (some ⟨b2, 0, none⟩)]) H ⟨fun u H' => u = .bool pr ∧ Upd H H' (b5 :: p :: D) ∧
      ∃ lv' D', H'.get b5 = .live (.cells [lv'] .own) ∧ OwnRow pkE H' lv' D' (if pr then lst ++ [x] else lst) ∧ (∀ d ∈ D', d ∈ D ∨ H.next ≤ d) ∧
        H'.get p = .live (.cells (stC wv { s with flight := if pr && x.asks then s.flight - x.size else s.flight }) .own)⟩ := by
  obtain ⟨n1, n2, n3, n4⟩ := hn
  obtain ⟨e1, e2, e3⟩ := hne
  have q1 : (b3 = H.next) = False := eq_false (by omega)
  have q2 : (b5 = H.next) = False := eq_false (by omega)
  have q3 : (b2 = H.next) = False := eq_false (by omega)
  have q4 : (p = H.next) = False := eq_false (by omega)
  (refine calls_of_vc [] hm Try.func47 rfl (ts := [5]) rfl (by kernel_rfl) (by simp) ?_; simp (config := { dsimp := false }) only [go_sem, reduceIte, Nat.reduceEqDiff, reduceCtorEq, Nat.reduceAdd, Nat.reduceMul, Int.reduceToNat, Int.reduceLE, Int.reduceLT, Int.reduceEq, Int.reduceNe, Nat.reduceLeDiff, Int.reducePow, Nat.reducePow, Nat.reduceLT, Nat.reduceSub, Nat.reduceMod, Nat.reduceDiv, T.ag_24, T.ag_3, T.ag_4, T.ag_61, T.ag_66, T.ag_71, T.eb_61, T.ez_61, T.fo_63_11, T.fo_66_1, T.fo_66_3, T.ib_3, T.ii_61, T.ip_3, T.s8_61, T.sl_61, T.st_61, T.un_61, init_a, h3, h5, h2, pkE, q1, q2, q3, q4, hgi])
  refine CallsH.pure _ rfl his ?_
  cases pr with
  | false =>
    simp (config := { dsimp := false }) only [go_sem, reduceIte, Nat.reduceEqDiff, reduceCtorEq, Nat.reduceAdd, Nat.reduceMul, Int.reduceToNat, Int.reduceLE, Int.reduceLT, Int.reduceEq, Int.reduceNe, Nat.reduceLeDiff, Int.reducePow, Nat.reducePow, Nat.reduceLT, Nat.reduceSub, Nat.reduceMod, Nat.reduceDiv, T.ag_24, T.ag_3, T.ag_4, T.ag_61, T.ag_66, T.ag_71, T.eb_61, T.ez_61, T.fo_63_11, T.fo_66_1, T.fo_66_3, T.ib_3, T.ii_61, T.ip_3, T.s8_61, T.sl_61, T.st_61, T.un_61, q2, q4, h5, hp]
    exact ⟨Upd.alloc _ _ _, lv, D, rfl, hO.upd (Upd.alloc _ _ []) (by simp), fun d hd => .inl hd⟩
  | true =>
    simp (config := { dsimp := false }) only [go_sem, reduceIte, Nat.reduceEqDiff, reduceCtorEq, Nat.reduceAdd, Nat.reduceMul, Int.reduceToNat, Int.reduceLE, Int.reduceLT, Int.reduceEq, Int.reduceNe, Nat.reduceLeDiff, Int.reducePow, Nat.reducePow, Nat.reduceLT, Nat.reduceSub, Nat.reduceMod, Nat.reduceDiv, T.ag_24, T.ag_3, T.ag_4, T.ag_61, T.ag_66, T.ag_71, T.eb_61, T.ez_61, T.fo_63_11, T.fo_66_1, T.fo_66_3, T.ib_3, T.ii_61, T.ip_3, T.s8_61, T.sl_61, T.st_61, T.un_61, h3, h5, h2, pkE, q1, q2, q3, q4]
    refine app_own (E := pkE) (ns := [x]) (hO.keep (by simp [Heap.alloc]; omega) fun d hd => ?_) rfl rfl rfl (by simp; omega) fun u H2 D2 hO2 hU2 hD2 => ?_
    · have := hO.lt d hd
      rw [get_alloc, if_neg (by simp [Heap.alloc]; omega), get_alloc, if_neg (by omega)]
    have g2 : ∀ id, id < H.next → id ∉ D → H2.get id = H.get id := fun id hid hd => by
      rw [hU2.2 id (by simp [Heap.alloc]; omega) hd, get_alloc, if_neg (by simp [Heap.alloc]; omega), get_alloc, if_neg (by omega)]
    have hn2 : H.next + 2 ≤ H2.next := hU2.1
    have k4 : H2.get H.next = .live (.cells (pkE.enc x) .own) := by
      rw [hU2.2 H.next (by simp (config := { dsimp := false }) (disch := omega) only [get_alloc, get_put, get_app, next_alloc, next_put, next_app, get_mask, get_unmask, next_mask, next_unmask, List.mem_cons, List.not_mem_nil, or_false, true_or, or_true, false_or, and_true, true_and, and_false, false_and, not_true_eq_false, not_false_eq_true, ne_eq, reduceIte, slot_neg, slot_pos]; omega) (fun hd => by have := hO.lt _ hd; omega)]
      simp (config := { dsimp := false }) (disch := omega) only [get_alloc, get_put, get_app, next_alloc, next_put, next_app, get_mask, get_unmask, next_mask, next_unmask, List.mem_cons, List.not_mem_nil, or_false, true_or, or_true, false_or, and_true, true_and, and_false, false_and, not_true_eq_false, not_false_eq_true, ne_eq, reduceIte, slot_neg, slot_pos]; rfl
    have k5 := (g2 b5 n2 hD.1).trans h5
    have kp := (g2 p n4 hD.2.1).trans hp
    have k2 := (g2 b2 n3 hD.2.2).trans h2
    have q5 : (H.next = b5) = False := eq_false (by omega)
    have q6 : (p = b5) = False := eq_false (by omega)
    have q7 : (b2 = b5) = False := eq_false (by omega)
    have q8 : (H.next = p) = False := eq_false (by omega)
    have q9 : (b5 = p) = False := eq_false e1
    have hu1 := hO2.row.one
    have hD2b : b5 ∉ D2 ∧ p ∉ D2 := ⟨fun hd => (hD2 _ hd).elim hD.1 (by simp [Heap.alloc]; omega), fun hd => (hD2 _ hd).elim hD.2.1 (by simp [Heap.alloc]; omega)⟩
    have hU3 : Upd H H2 (b5 :: p :: D) := (((Upd.refl H _).allocs).allocs).trans hU2 (fun d hd => .inl (by simp [hd]))
    have hD3 : ∀ d ∈ D2, d ∈ D ∨ H.next ≤ d := fun d hd => (hD2 d hd).imp_right (by simp [Heap.alloc]; omega)
    cases ha : x.asks with
    | false =>
      simp (config := { dsimp := false }) only [go_sem, reduceIte, Nat.reduceEqDiff, reduceCtorEq, Nat.reduceAdd, Nat.reduceMul, Int.reduceToNat, Int.reduceLE, Int.reduceLT, Int.reduceEq, Int.reduceNe, Nat.reduceLeDiff, Int.reducePow, Nat.reducePow, Nat.reduceLT, Nat.reduceSub, Nat.reduceMod, Nat.reduceDiv, T.ag_24, T.ag_3, T.ag_4, T.ag_61, T.ag_66, T.ag_71, T.eb_61, T.ez_61, T.fo_63_11, T.fo_66_1, T.fo_66_3, T.ib_3, T.ii_61, T.ip_3, T.s8_61, T.sl_61, T.st_61, T.un_61, k4, k5, kp, k2, q5, hu1.1, pkE, ha]
      refine ⟨hU3.put (by simp), u, D2, rfl, hO2.keep (Nat.le_refl _) (fun d hd => by rw [get_put, if_neg (fun e : d = b5 => hD2b.1 (e ▸ hd))]), hD3, ?_⟩
      rw [if_neg (fun e => e1 e.symm)]
    | true =>
      simp (config := { dsimp := false }) only [go_sem, reduceIte, Nat.reduceEqDiff, reduceCtorEq, Nat.reduceAdd, Nat.reduceMul, Int.reduceToNat, Int.reduceLE, Int.reduceLT, Int.reduceEq, Int.reduceNe, Nat.reduceLeDiff, Int.reducePow, Nat.reducePow, Nat.reduceLT, Nat.reduceSub, Nat.reduceMod, Nat.reduceDiv, T.ag_24, T.ag_3, T.ag_4, T.ag_61, T.ag_66, T.ag_71, T.eb_61, T.ez_61, T.fo_63_11, T.fo_66_1, T.fo_66_3, T.ib_3, T.ii_61, T.ip_3, T.s8_61, T.sl_61, T.st_61, T.un_61, k4, k5, kp, k2, q5, hu1.1, pkE, ha, q6, q7]
      refine draw_plan0 (.takeS 0 (.takeS 1 (.takeS 2 (.takeS 3 (.takeS 4 (.takeS 5 (.takeS 6 (.takeS 7 (.takeS 8 (.alt 9 .done .stop)))))))))) hm (by kernel_rfl) (by kernel_rfl) ?_
      have w : IntKind.i64.wrap (s.flight - x.size) = s.flight - x.size := by rw [i64wrap] <;> omega
      simp (config := { dsimp := false, maxSteps := 10000000 }) (disch := omega) only [go_sem, reduceIte, Nat.reduceEqDiff, reduceCtorEq, Nat.reduceAdd, Nat.reduceMul, Int.reduceToNat, Int.reduceLE, Int.reduceLT, Int.reduceEq, Int.reduceNe, Nat.reduceLeDiff, Int.reducePow, Nat.reducePow, Nat.reduceLT, Nat.reduceSub, Nat.reduceMod, Nat.reduceDiv, slot_neg, slot_pos, T.ag_24, T.ag_3, T.ag_4, T.ag_61, T.ag_66, T.ag_71, T.eb_61, T.ez_61, T.fo_63_11, T.fo_66_1, T.fo_66_3, T.ib_3, T.ii_61, T.ip_3, T.s8_61, T.sl_61, T.st_61, T.un_61, k4, k5, kp, k2, hu1.1, pkE, ha, stC, w]
      refine ⟨(hU3.put (by simp)).put (by simp), u, D2, rfl, hO2.keep (Nat.le_refl _) (fun d hd => ?_), hD3⟩
      have f1 : ¬ d = b5 := fun e => hD2b.1 (e ▸ hd)
      have f2 : ¬ d = p := fun e => hD2b.2 (e ▸ hd)
      simp (config := { dsimp := false }) (disch := omega) only [get_alloc, get_put, get_app, next_alloc, next_put, next_app, get_mask, get_unmask, next_mask, next_unmask, List.mem_cons, List.not_mem_nil, or_false, true_or, or_true, false_or, and_true, true_and, and_false, false_and, not_true_eq_false, not_false_eq_true, ne_eq, reduceIte, slot_neg, slot_pos]
end Ph
