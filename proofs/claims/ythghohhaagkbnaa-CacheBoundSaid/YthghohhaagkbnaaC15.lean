import Derived.Test.YthghohhaagkbnaaC14
set_option maxRecDepth 100000
set_option maxHeartbeats 4000000
set_option linter.unusedSimpArgs false
set_option linter.unusedVariables false
namespace Ph
open Go Go.Proofs
attribute [local irreducible] Value.cells
attribute [local go_sem ↓] y_move y_assign y_pick y_nil y_bin y_un y_fa y_field y_ext y_ia y_ix y_slice y_build y_mf y_rg y_nx y_en y_mm y_lk y_mu y_del y_load y_len y_min y_max y_conv y_bs y_mk y_alloc y_box y_store y_clear y_app y_callf y_callt s_move s_assign s_pick s_nil s_bin s_un s_fa s_field s_ext s_ia s_ix s_slice s_conv s_build s_bs s_mf s_alloc s_box s_rg s_nx s_en s_mm s_lk s_mu s_del s_load s_store s_len s_clear s_min s_max s_app s_call q_call q_move q_assign q_pick q_nil q_bin q_un q_fa q_field q_ext q_ia q_ix q_slice q_conv q_build q_mf q_lk q_load q_len q_min q_max l_nil l_move l_assign l_pick l_nilc l_bin l_un l_fa l_field l_ext l_ia l_ix l_slice l_conv l_build l_mf l_lk l_load l_len l_min l_max l_call put_eq putN_eq o_nil o_plain o_gate v_nil v_plain v_gate vc_skip vc_region vc_seq vc_cond vc_block vc_loop vc_rf vc_exit vc_ret blk_normal blk_ret blk_exit on_normal on_ret on_exit vc_drawn draw_q s_mk l_bs l_mk l_rg l_nx l_en l_mm l_mu l_del l_alloc l_box l_store l_app l_clear pl_done pl_takeS pl_take pl_alt pl_stop one_plain one_gate
attribute [local go_sem] clear_nil clear_sl onAgg_a onTuple_t onFn_f onFn_y onFunc_f c_int c_nil c_sl c_str sl_sl sl_nil sl_str ix_str ix_agg n_nil n_sl n_str app_eq k_nil k_sl len_sl len_str len_mn len_m onMap_m onIter_i rg_n rg_m nx_p en_p lk_n lk_m up_m setM_n setM_s del_n del_m kt_s kt_i upd_some upd_none ev_tmp ev_const ev_func rd_some gdst_eq otmp_t otmp_c get_put get_alloc next_put next_alloc get_app next_app init_a resV1 resV2 onPtr_ptr onBool_b onInt_i onSlice_s onSome_s onCells_c lett_eq gate_tt gate_tf gate_ff gate_ft gate_dt gate_df also_eq bin un minmax io_none io_some bo_none bo_some partOf List.getElem?_cons_zero List.getElem?_cons_succ List.getElem?_toArray Option.map_some Option.map_none Option.bind_some ne_eq not_true_eq_false not_false_eq_true false_implies true_implies and_true true_and and_self Bool.false_eq_true Nat.zero_add Nat.add_zero List.size_toArray List.length_cons List.length_nil List.map_toArray List.map_cons List.map_nil Array.getD_eq_getD_getElem? Option.getD_some Bool.not_true Bool.not_false Bool.not_eq_true Option.isNone_some Option.isNone_none List.append_toArray List.append_nil List.nil_append List.cons_append decide_true decide_false in_nil in_cons Bool.and_false Bool.and_true Bool.or_false Bool.true_or Bool.false_or get_mask next_mask get_unmask next_unmask ac_move ac_assign ac_pick ac_nil ac_bin ac_un ac_fa ac_field ac_ext ac_ia ac_ix ac_slice ac_build ac_mf ac_call ac_len ac_lk ac_min ac_max accM_m accM_n accM_s accM_t ac_load ac_conv accP_p accS_s accS_n accS_i accS_t fixed_ro fixed_lock fixed_own get_ro next_ro lock_live' lock_cells List.mem_cons List.not_mem_nil or_false false_or or_true true_or and_false false_and IntKind.bits Int.natCast_zero Int.natCast_one size_str data_str list_str mk_str ext_str app_str bytes_str w_byte w_byteu Int.toNat_natCast Int.toNat_zero Int.toNat_one Nat.sub_zero ge_iff_le gt_iff_lt Nat.le_refl Int.le_refl List.drop_zero Int.ofNat_eq_natCast Int.natCast_nonneg Int.sub_zero oc_int oc_bool oc_str oc_ptr oc_sl oc_map oc_func List.set_cons_zero List.set_cons_succ Nat.mul_one List.all_cons List.all_nil Bool.and_self res_nil res_tmp res_cell tup_one tup_two tup_nil fill_nil repl_zero cells_agg List.append_eq List.toList_toArray Nat.zero_mul Nat.one_mul repl_one repl_two onSome_build fill_cons onSome_lit splice_eq cells_int cells_bool cells_str cells_ptr cells_sl cells_map cells_func loadK_n loadK_s load_k storeK_n storeK_s store_k all_arr List.take_zero List.take_succ_cons List.drop_succ_cons List.take_nil List.drop_nil lk_own lk_ro lk_lock lk_lk fixed_lk gate_nt gate_nf gate3_b gate3_u undef Bool.true_and Bool.false_and nx_l nx_r nx_lt put_put resV0
/-! Drop; no cache; all, as a list. -/
theorem GetN_ph (h : Heap) (k : Value) (at_ : Int) : @CallsH Try.prog 29 #[.pointer none, k, .int .i64 at_] h ⟨fun u H => u = .tuple #[.int .i64 0, .int .i64 0, .bool false] ∧ Upd h H []⟩ := by
  (refine calls_of_vc [] hm Try.func29 rfl (ts := [6, 7, 8]) rfl (by kernel_rfl) (by simp) ?_; simp (config := { dsimp := false, maxSteps := 10000000 }) (disch := omega) only [go_sem, reduceIte, Nat.reduceEqDiff, reduceCtorEq, Nat.reduceAdd, Nat.reduceMul, Int.reduceToNat, Int.reduceLE, Int.reduceLT, Int.reduceEq, Int.reduceNe, Nat.reduceLeDiff, Int.reducePow, Nat.reducePow, Nat.reduceLT, Nat.reduceSub, Nat.reduceMod, Nat.reduceDiv, slot_neg, slot_pos, T.ag_134, T.ag_136, T.ag_3, T.fo_134_1, T.fo_134_2, T.fo_138_0, T.fo_138_2, T.gf_60, T.ib_3, T.ib_66, T.ii_9, T.ip_3, T.ip_66, T.mt_136, T.s8_9, T.sl_9, T.st_9, T.un_9, T.zo_134, T.zv_134, init_a])
  exact Upd.refl _ _
theorem CountN_ph (h : Heap) (at_ : Int) : @CallsH Try.prog 31 #[.pointer none, .int .i64 at_] h ⟨fun u H => u = .int .i64 0 ∧ H = h⟩ := by
  (refine calls_of_vc [] hm Try.func31 rfl (ts := [4]) rfl (by kernel_rfl) (by simp) ?_; simp (config := { dsimp := false, maxSteps := 10000000 }) (disch := omega) only [go_sem, reduceIte, Nat.reduceEqDiff, reduceCtorEq, Nat.reduceAdd, Nat.reduceMul, Int.reduceToNat, Int.reduceLE, Int.reduceLT, Int.reduceEq, Int.reduceNe, Nat.reduceLeDiff, Int.reducePow, Nat.reducePow, Nat.reduceLT, Nat.reduceSub, Nat.reduceMod, Nat.reduceDiv, slot_neg, slot_pos, T.ag_136, T.fo_138_0, T.gf_60, T.ib_66, T.ii_136, T.ii_9, T.ip_66, T.mt_136, T.s8_136, T.s8_9, T.sl_136, T.sl_9, T.st_136, T.st_9, T.un_136, T.un_9, T.zv_134, init_a])
theorem DropN_ph (h : Heap) (k : Value) (at_ : Int) : @CallsH Try.prog 32 #[.pointer none, k, .int .i64 at_] h ⟨fun u H => u = .bool false ∧ H = h⟩ := by
  (refine calls_of_vc [] hm Try.func32 rfl (ts := [6]) rfl (by kernel_rfl) (by simp) ?_; simp (config := { dsimp := false, maxSteps := 10000000 }) (disch := omega) only [go_sem, reduceIte, Nat.reduceEqDiff, reduceCtorEq, Nat.reduceAdd, Nat.reduceMul, Int.reduceToNat, Int.reduceLE, Int.reduceLT, Int.reduceEq, Int.reduceNe, Nat.reduceLeDiff, Int.reducePow, Nat.reducePow, Nat.reduceLT, Nat.reduceSub, Nat.reduceMod, Nat.reduceDiv, slot_neg, slot_pos, T.ag_134, T.ag_136, T.fo_138_0, T.gf_60, T.ib_66, T.ii_9, T.ip_66, T.mt_136, T.s8_9, T.sl_9, T.st_9, T.un_9, T.zo_134, T.zv_134, init_a])
theorem AllN_ph (h : Heap) (at_ : Int) : @CallsH Try.prog 39 #[.pointer none, .int .i64 at_] h ⟨fun u H => u = .func (.func 68) #[] #[.pointer (some ⟨h.next, 0, none⟩)] ∧ H = h.alloc (.cells [.slice none 0 0] .own)⟩ := by
  (refine calls_of_vc [] hm Try.func39 rfl (ts := [4]) rfl (by kernel_rfl) (by simp) ?_; simp (config := { dsimp := false, maxSteps := 10000000 }) (disch := omega) only [go_sem, reduceIte, Nat.reduceEqDiff, reduceCtorEq, Nat.reduceAdd, Nat.reduceMul, Int.reduceToNat, Int.reduceLE, Int.reduceLT, Int.reduceEq, Int.reduceNe, Nat.reduceLeDiff, Int.reducePow, Nat.reducePow, Nat.reduceLT, Nat.reduceSub, Nat.reduceMod, Nat.reduceDiv, slot_neg, slot_pos, T.ag_136, T.ag_140, T.fo_138_0, T.gf_60, T.gf_63, T.gf_64, T.gf_67, T.ib_66, T.ip_66, T.zo_140, init_a])
theorem DropS_ph (h : Heap) (p id : Nat) (c : Ca) (at_ : Int) (k : Value) (hk : isStrV k) (hC : CaR isStrV h p id c) :
    @CallsH Try.prog 32 #[.pointer (some ⟨p, 0, none⟩), k, .int .i64 at_] h ⟨fun u H => CaR isStrV H p id (without (timeC c at_) k) ∧ Upd h H [p, id] ∧ u = .bool (decide ((without (timeC c at_) k).l.length < (timeC c at_).l.length))⟩ := by
  have hkt : keyTy Try.prog 9 k = true := by obtain ⟨s, rfl⟩ := hk; rfl
  have hk1 : k.oneCell' = true := by obtain ⟨s, rfl⟩ := hk; rfl
  (refine calls_of_vc [] hm Try.func32 rfl (ts := [6]) rfl (by kernel_rfl) (by simp) ?_; simp (config := { dsimp := false, maxSteps := 10000000 }) (disch := omega) only [go_sem, reduceIte, Nat.reduceEqDiff, reduceCtorEq, Nat.reduceAdd, Nat.reduceMul, Int.reduceToNat, Int.reduceLE, Int.reduceLT, Int.reduceEq, Int.reduceNe, Nat.reduceLeDiff, Int.reducePow, Nat.reducePow, Nat.reduceLT, Nat.reduceSub, Nat.reduceMod, Nat.reduceDiv, slot_neg, slot_pos, T.ag_134, T.ag_136, T.fo_138_0, T.gf_60, T.ib_66, T.ii_9, T.ip_66, T.mt_136, T.s8_9, T.sl_9, T.st_9, T.un_9, T.zo_134, T.zv_134, init_a])
  refine (timeS_ph h p id c at_ hC).mono fun u H ⟨hC1, hU⟩ => ?_
  generalize timeC c at_ = c1 at *
  obtain ⟨hpn, hpi, hp, cl, hM⟩ := hC1
  have n1 : (p = H.next) = False := eq_false (by omega)
  have hidn := hM.lt
  have n2 : (id = H.next) = False := eq_false (by omega)
  by_cases hex : ∃ x ∈ c1.l, x.key = k
  · obtain ⟨x, hx, rfl⟩ := hex
    obtain ⟨i, hi⟩ := List.getElem?_of_mem hx
    have hf := find_some kind_str _ 0 i x hM.keys hM.one hi
    have hxc : x.agg.cells = #[x.key, x.val, .int .i64 x.goes, .int .i64 x.put] := cells_agg
    have hx1 := x.one
    simp (config := { dsimp := false, maxSteps := 10000000 }) (disch := omega) only [go_sem, reduceIte, Nat.reduceEqDiff, reduceCtorEq, Nat.reduceAdd, Nat.reduceMul, Int.reduceToNat, Int.reduceLE, Int.reduceLT, Int.reduceEq, Int.reduceNe, Nat.reduceLeDiff, Int.reducePow, Nat.reducePow, Nat.reduceLT, Nat.reduceSub, Nat.reduceMod, Nat.reduceDiv, slot_neg, slot_pos, T.ag_134, T.ag_136, T.fo_138_0, T.gf_60, T.ib_66, T.ii_9, T.ip_66, T.mt_136, T.s8_9, T.sl_9, T.st_9, T.un_9, T.zo_134, T.zv_134, hp, caC, hM.at_, hf, hxc, hx1.1, hx1.2, n1, n2]
    rw [ents_erase, erase_key kind_str hM hi]
    have ua : Upd H ((H.alloc (.cells [.string (str []), .int .i64 0, .int .i64 0, .int .i64 0] .own)).put H.next (.live (.cells [x.key, x.val, .int .i64 x.goes, .int .i64 x.put] .own))) [] := (Upd.alloc _ _ _).put (.inr (Nat.le_refl _))
    have hC2 : CaR isStrV ((H.alloc (.cells [.string (str []), .int .i64 0, .int .i64 0, .int .i64 0] .own)).put H.next (.live (.cells [x.key, x.val, .int .i64 x.goes, .int .i64 x.put] .own))) p id c1 := CaR.upd ⟨hpn, hpi, hp, cl, hM⟩ ua (by simp) (by simp)
    have hM2 := hM.upd ua (by simp)
    refine ⟨hkt, hkt, CaR.turn hC2 (List.filter_sublist ..) hM2.at_, (hU.trans ua (by simp)).put (.inl (by simp)), ?_⟩
    rw [decide_eq_true]
    refine List.length_filter_lt_length_iff_exists.2 ⟨x, hx, ?_⟩
    rw [keq_yes kind_str (hM.keys x hx)]; simp
  · have hex' : ∀ x ∈ c1.l, x.key ≠ k := fun x hx e => hex ⟨x, hx, e⟩
    have hf := find_none kind_str hk _ 0 hM.keys hex'
    simp (config := { dsimp := false, maxSteps := 10000000 }) (disch := omega) only [go_sem, reduceIte, Nat.reduceEqDiff, reduceCtorEq, Nat.reduceAdd, Nat.reduceMul, Int.reduceToNat, Int.reduceLE, Int.reduceLT, Int.reduceEq, Int.reduceNe, Nat.reduceLeDiff, Int.reducePow, Nat.reducePow, Nat.reduceLT, Nat.reduceSub, Nat.reduceMod, Nat.reduceDiv, slot_neg, slot_pos, T.ag_134, T.ag_136, T.fo_138_0, T.gf_60, T.ib_66, T.ii_9, T.ip_66, T.mt_136, T.s8_9, T.sl_9, T.st_9, T.un_9, T.zo_134, T.zv_134, hp, caC, hM.at_, hf, n1, n2]
    have e : (without c1 k).l = c1.l := List.filter_eq_self.2 fun x hx => by rw [keq_no kind_str hk (hM.keys x hx) (fun e => hex' x hx e.symm)]; rfl
    have ew : without c1 k = c1 := by
      have e2 : without c1 k = { c1 with l := (without c1 k).l } := rfl
      rw [e2, e]
    rw [ew]
    have ua : Upd H ((H.alloc (.cells [.string (str []), .int .i64 0, .int .i64 0, .int .i64 0] .own)).put H.next (.live (.cells [.string (str []), .int .i64 0, .int .i64 0, .int .i64 0] .own))) [] := (Upd.alloc _ _ _).put (.inr (Nat.le_refl _))
    have hC2 : CaR isStrV ((H.alloc (.cells [.string (str []), .int .i64 0, .int .i64 0, .int .i64 0] .own)).put H.next (.live (.cells [.string (str []), .int .i64 0, .int .i64 0, .int .i64 0] .own))) p id c1 := CaR.upd ⟨hpn, hpi, hp, cl, hM⟩ ua (by simp) (by simp)
    have hM2 := hM.upd ua (by simp)
    exact ⟨hkt, hkt, CaR.turn hC2 (List.Sublist.refl _) hM2.at_, (hU.trans ua (by simp)).put (.inl (by simp)), by simp⟩
def tE : Enc Th := ⟨3, fun x => [x.key, x.val, .int .i64 0], fun _ => rfl, fun x => by simp [x.one.1, x.one.2]; exact ri _⟩
theorem tE_k : tE.k = 3 := rfl
/-- what All hands out, put behind each other -/
theorem things_gen (h : Heap) (cv : Value) (at_ : Int) (X : Heap → List Th → Prop) (F : List Nat) (hF : ∀ f ∈ F, f < h.next) (hX : ∀ H H' s, X H s → H.next ≤ H'.next → (∀ k, k < h.next → H'.get k = H.get k) → X H' s)
    (hAll : @CallsH Try.prog 39 #[cv, .int .i64 at_] (h.alloc (.cells [.slice none 0 0] .own)) ⟨fun u H => ∃ b v D s, u = .func (.func 68) #[] #[.pointer (some ⟨b, 0, none⟩)] ∧ h.next < b ∧ b < H.next ∧ H.get b = .live (.cells [v] .own) ∧ OwnRow thE H v D s ∧ (∀ d ∈ D, h.next < d ∧ d ≠ b) ∧ s.length ≤ 10000 ∧ X H s ∧ Upd (h.alloc (.cells [.slice none 0 0] .own)) H F⟩) :
    @CallsH Try.prog 33 #[cv, .int .i64 at_] h ⟨fun u H => ∃ s D, OwnRow tE H u D s ∧ (∀ d ∈ D, h.next ≤ d) ∧ X H s ∧ Upd h H F⟩ := by
  (refine calls_of_codeR (rs := [.tmp 4]) Try.func33 rfl rfl (by simp) ?_)
  (refine CodeH.seq' (CodeH.of_vc [] hm (by kernel_rfl) ?_); simp (config := { dsimp := false, maxSteps := 10000000 }) (disch := omega) only [go_sem, reduceIte, Nat.reduceEqDiff, reduceCtorEq, Nat.reduceAdd, Nat.reduceMul, Int.reduceToNat, Int.reduceLE, Int.reduceLT, Int.reduceEq, Int.reduceNe, Nat.reduceLeDiff, Int.reducePow, Nat.reducePow, Nat.reduceLT, Nat.reduceSub, Nat.reduceMod, Nat.reduceDiv, slot_neg, slot_pos, T.ag_71, T.eb_71, T.ez_71, T.gf_39, T.ii_71, T.pl_82, T.s8_71, T.sl_71, T.st_71, T.un_71, T.zo_71, T.zo_82, init_a])
  (refine CodeH.seq' (CodeH.of_vc [] hm (by kernel_rfl) ?_); simp (config := { dsimp := false, maxSteps := 10000000 }) (disch := omega) only [go_sem, reduceIte, Nat.reduceEqDiff, reduceCtorEq, Nat.reduceAdd, Nat.reduceMul, Int.reduceToNat, Int.reduceLE, Int.reduceLT, Int.reduceEq, Int.reduceNe, Nat.reduceLeDiff, Int.reducePow, Nat.reducePow, Nat.reduceLT, Nat.reduceSub, Nat.reduceMod, Nat.reduceDiv, slot_neg, slot_pos, T.ag_71, T.eb_71, T.ez_71, T.gf_39, T.ii_71, T.pl_82, T.s8_71, T.sl_71, T.st_71, T.un_71, T.zo_71, T.zo_82, init_a])
  refine CodeH.seq (fun r H => ∃ u s D, H.get h.next = .live (.cells [u] .own) ∧ r 5 = .pointer (some ⟨h.next, 0, none⟩) ∧ OwnRow tE H u D s ∧ (∀ d ∈ D, h.next < d) ∧ X H s ∧ Upd h H F) ?_ fun r H ⟨u, s, D, hg, q5, hO, hD, hx, hU⟩ => ?_
  · refine CodeH.seq' (CodeH.of_vc [] hm (by kernel_rfl) ?_)
    simp (config := { dsimp := false, maxSteps := 10000000 }) (disch := omega) only [go_sem, reduceIte, Nat.reduceEqDiff, reduceCtorEq, Nat.reduceAdd, Nat.reduceMul, Int.reduceToNat, Int.reduceLE, Int.reduceLT, Int.reduceEq, Int.reduceNe, Nat.reduceLeDiff, Int.reducePow, Nat.reducePow, Nat.reduceLT, Nat.reduceSub, Nat.reduceMod, Nat.reduceDiv, slot_neg, slot_pos, T.ag_71, T.eb_71, T.ez_71, T.gf_39, T.ii_71, T.pl_82, T.s8_71, T.sl_71, T.st_71, T.un_71, T.zo_71, T.zo_82, init_a]
    refine hAll.mono fun u H1 ⟨b, v, Dv, s, hu, hb1, hb2, gb, hv, hDv, hsl, hx, hU⟩ => ?_
    subst hu
    simp (config := { dsimp := false, maxSteps := 10000000 }) (disch := omega) only [go_sem, reduceIte, Nat.reduceEqDiff, reduceCtorEq, Nat.reduceAdd, Nat.reduceMul, Int.reduceToNat, Int.reduceLE, Int.reduceLT, Int.reduceEq, Int.reduceNe, Nat.reduceLeDiff, Int.reducePow, Nat.reducePow, Nat.reduceLT, Nat.reduceSub, Nat.reduceMod, Nat.reduceDiv, slot_neg, slot_pos, T.ag_71, T.eb_71, T.ez_71, T.gf_39, T.ii_71, T.pl_82, T.s8_71, T.sl_71, T.st_71, T.un_71, T.zo_71, T.zo_82]
    have go : H1.get h.next = .live (.cells [.slice none 0 0] .own) := (hU.2 h.next (Nat.lt_succ_self _) (fun e => by have := hF _ e; omega)).trans (by rw [get_alloc, if_pos rfl])
    have hU0 : Upd h H1 F := (Upd.alloc h _ F).trans hU (fun d hd => .inl hd)
    have hn1 : h.next < H1.next := Nat.lt_of_lt_of_le (Nat.lt_succ_self _) hU.1
    refine CodeH.of_vc [] hm (by kernel_rfl) ?_
    simp (config := { dsimp := false, maxSteps := 10000000 }) (disch := omega) only [go_sem, reduceIte, Nat.reduceEqDiff, reduceCtorEq, Nat.reduceAdd, Nat.reduceMul, Int.reduceToNat, Int.reduceLE, Int.reduceLT, Int.reduceEq, Int.reduceNe, Nat.reduceLeDiff, Int.reducePow, Nat.reducePow, Nat.reduceLT, Nat.reduceSub, Nat.reduceMod, Nat.reduceDiv, slot_neg, slot_pos, T.ag_71, T.eb_71, T.ez_71, T.gf_39, T.ii_71, T.pl_82, T.s8_71, T.sl_71, T.st_71, T.un_71, T.zo_71, T.zo_82]
    refine RF.gen (fun r => r 5 = .pointer (some ⟨h.next, 0, none⟩) ∧ r 10 = .func (.func 68) #[] #[.pointer (some ⟨b, 0, none⟩)]) ⟨by simp [upd], by simp [upd]⟩ fun r ⟨q5, q10⟩ => ?_
    refine range_over q10 (by kernel_rfl) (AllSeqS b v s (by omega)) (fun args ha => ?_) (fun i H => H1.next < H.next ∧ ∃ u D, H.get h.next = .live (.cells [u] .own) ∧ OwnRow tE H u D (s.take i) ∧ (∀ d ∈ D, H1.next < d) ∧ H.get b = .live (.cells [v] .own) ∧ OwnRow thE H v Dv s ∧ X H s ∧ Upd h H F) ?_ ?_ ?_ ?_ ?_ ?_
    · obtain ⟨i, _, rfl⟩ := List.mem_map.1 ha; rfl
    · intro H hu1 hn2
      exact ⟨by omega, _, [], (hu1.2 _ hn1 (by simp)).trans go, OwnRow.nil _, by simp, (hu1.2 _ hb2 (by simp)).trans gb, hv.upd hu1 (by simp), hX _ _ _ hx hu1.1 fun k hk => hu1.2 k (by omega) (by simp), hU0.trans hu1 (by simp)⟩
    · rintro i H ⟨a0, u, D, a1, a2, a3, a4, a5, a6, a7⟩
      refine ⟨by omega, _, a4, a5.row, fun A n st e => ?_⟩
      rcases a5 with ⟨e1, _⟩ | ⟨q, off, vs, _, hqn, e1, _⟩
      · rw [e1] at e; cases e
      · rw [e1] at e; cases e; exact hqn
    · rintro i H H' ⟨a0, u, D, a1, a2, a3, a4, a5, a6, a7⟩ hu
      exact ⟨Nat.lt_of_lt_of_le a0 hu.1, u, D, (hu.2 _ (by omega) (by simp)).trans a1, a2.upd hu (by simp), a3, (hu.2 _ (by omega) (by simp)).trans a4, a5.upd hu (by simp), hX _ _ _ a6 hu.1 fun k hk => hu.2 k (by omega) (by simp), a7.trans hu (by simp)⟩
    · rintro i H x ⟨a0, u, D, a1, a2, a3, a4, a5, a6, a7⟩
      refine ⟨a0, u, D, by rw [get_put, if_neg (by omega)]; exact a1, a2.keep (Nat.le_refl _) fun d hd => by rw [get_put, if_neg (by have := a3 d hd; omega)], a3, by rw [get_put, if_neg (by omega)]; exact a4, a5.keep (Nat.le_refl _) fun d hd => ?_, hX _ _ _ a6 (Nat.le_refl _) fun k hk => by rw [get_put, if_neg (by omega)], a7.put (.inr (by omega))⟩
      have := hv.lt d hd
      rw [get_put, if_neg (by omega)]
    · rintro H x ⟨a0, u, D, a1, a2, a3, a4, a5, a6, a7⟩
      rw [List.length_map, List.take_length] at a2
      simp (config := { dsimp := false, maxSteps := 10000000 }) (disch := omega) only [go_sem, reduceIte, Nat.reduceEqDiff, reduceCtorEq, Nat.reduceAdd, Nat.reduceMul, Int.reduceToNat, Int.reduceLE, Int.reduceLT, Int.reduceEq, Int.reduceNe, Nat.reduceLeDiff, Int.reducePow, Nat.reducePow, Nat.reduceLT, Nat.reduceSub, Nat.reduceMod, Nat.reduceDiv, slot_neg, slot_pos, T.ag_71, T.eb_71, T.ez_71, T.gf_39, T.ii_71, T.pl_82, T.s8_71, T.sl_71, T.st_71, T.un_71, T.zo_71, T.zo_82]
      refine ⟨u, s, D, a1, q5, a2.keep (Nat.le_refl _) fun d hd => by rw [get_put, if_neg (by have := a3 d hd; omega)], fun d hd => by have := a3 d hd; omega, hX _ _ _ a6 (Nat.le_refl _) fun k hk => by rw [get_put, if_neg (by omega)], a7.put (.inr (by omega))⟩
    · rintro n i args H B k1 k2 hx' ⟨a0, u, D, a1, a2, a3, a4, a5, a6, a7⟩ hB hlt2
      have hi : i < s.length := by
        have := (List.getElem?_eq_some_iff.1 hx').1; simpa using this
      have hxx : s[i]? = some s[i] := List.getElem?_eq_getElem hi
      rw [List.getElem?_map, hxx] at hx'
      have htn := take_snoc hxx
      generalize s[i] = y at hx' hxx htn
      cases hx'
      have hy1 := y.one
      have hlen : (s.take i).length ≤ 10000 := by rw [List.length_take]; omega
      rw [show ∀ a c : Value, setP r (#[11, 12] : Array Nat).toList (#[a, c] : Array Value).toList = upd (upd r (some 11) a) (some 12) c from fun _ _ => rfl]
      refine CodeH.of_vc [] hm k1 ?_
      simp (config := { dsimp := false, maxSteps := 10000000 }) (disch := omega) only [go_sem, reduceIte, Nat.reduceEqDiff, reduceCtorEq, Nat.reduceAdd, Nat.reduceMul, Int.reduceToNat, Int.reduceLE, Int.reduceLT, Int.reduceEq, Int.reduceNe, Nat.reduceLeDiff, Int.reducePow, Nat.reducePow, Nat.reduceLT, Nat.reduceSub, Nat.reduceMod, Nat.reduceDiv, slot_neg, slot_pos, T.ag_71, T.eb_71, T.ez_71, T.gf_39, T.ii_71, T.pl_82, T.s8_71, T.sl_71, T.st_71, T.un_71, T.zo_71, T.zo_82, hB]
      refine fun B' => CodeH.of_vc [] hm k2 ?_
      obtain ⟨Hb, hHb⟩ : ∃ Hb, H.put H1.next B' = Hb := ⟨_, rfl⟩
      rw [hHb]
      have e2 : Hb.get h.next = .live (.cells [u] .own) := by rw [← hHb, get_put, if_neg (by omega)]; exact a1
      have e4 : Hb.get b = .live (.cells [v] .own) := by rw [← hHb, get_put, if_neg (by omega)]; exact a4
      have eB : Hb.get H1.next = B' := by rw [← hHb, get_put, if_pos rfl]
      have e3 : OwnRow tE Hb u D (s.take i) := a2.keep (by rw [← hHb, next_put]; exact Nat.le_refl _) fun d hd => by rw [← hHb, get_put, if_neg (by have := a3 d hd; omega)]
      have hvlt := hv.lt
      have e5 : OwnRow thE Hb v Dv s := a5.keep (by rw [← hHb, next_put]; exact Nat.le_refl _) fun d hd => by rw [← hHb, get_put, if_neg (by have := hvlt d hd; omega)]
      have e6 : X Hb s := hX _ _ _ a6 (by rw [← hHb, next_put]; exact Nat.le_refl _) fun k hk => by rw [← hHb, get_put, if_neg (by omega)]
      have e7 : Upd h Hb F := by rw [← hHb]; exact a7.put (.inr (by omega))
      have e9 : H1.next < Hb.next := by rw [← hHb, next_put]; exact a0
      clear hHb
      have ho := e3.row.one
      have kc1 : y.key.cells = #[y.key] := cells_of_one hy1.1
      have kc2 : y.val.cells = #[y.val] := cells_of_one hy1.2
      simp (config := { dsimp := false, maxSteps := 10000000 }) (disch := omega) only [go_sem, reduceIte, Nat.reduceEqDiff, reduceCtorEq, Nat.reduceAdd, Nat.reduceMul, Int.reduceToNat, Int.reduceLE, Int.reduceLT, Int.reduceEq, Int.reduceNe, Nat.reduceLeDiff, Int.reducePow, Nat.reducePow, Nat.reduceLT, Nat.reduceSub, Nat.reduceMod, Nat.reduceDiv, slot_neg, slot_pos, T.ag_71, T.eb_71, T.ez_71, T.gf_39, T.ii_71, T.pl_82, T.s8_71, T.sl_71, T.st_71, T.un_71, T.zo_71, T.zo_82, q5, e2, hy1.1, hy1.2, kc1, kc2]
      obtain ⟨Hn, hHn⟩ : ∃ Hn, Hb.alloc (.cells [y.key, y.val, .int .i64 0] .own) = Hn := ⟨_, rfl⟩
      rw [hHn]
      have un : Upd Hb Hn [] := by rw [← hHn]; exact Upd.alloc _ _ _
      clear hHn
      have m3 := e3.upd un (by simp)
      have n1 := un.1
      have hDo : h.next ∉ D := fun hd => by have := a3 _ hd; omega
      refine app_own (E := tE) (ns := [y]) m3 rfl (by simp [Enc.flat, tE]) rfl (by simp only [List.length_singleton]; omega) fun u3 H3 D3 hO3 hU3 hD3 => ?_
      have n3 := hU3.1
      have k2' := (hU3.2 h.next (by omega) hDo).trans ((un.2 h.next (by omega) (by simp)).trans e2)
      have hou := hO3.row.one
      simp (config := { dsimp := false, maxSteps := 10000000 }) (disch := omega) only [go_sem, reduceIte, Nat.reduceEqDiff, reduceCtorEq, Nat.reduceAdd, Nat.reduceMul, Int.reduceToNat, Int.reduceLE, Int.reduceLT, Int.reduceEq, Int.reduceNe, Nat.reduceLeDiff, Int.reducePow, Nat.reducePow, Nat.reduceLT, Nat.reduceSub, Nat.reduceMod, Nat.reduceDiv, slot_neg, slot_pos, T.ag_71, T.eb_71, T.ez_71, T.gf_39, T.ii_71, T.pl_82, T.s8_71, T.sl_71, T.st_71, T.un_71, T.zo_71, T.zo_82, q5, k2', hou.1, hou.2]
      have hD4 : ∀ d ∈ D3, H1.next < d := fun d hd => by
        rcases hD3 d hd with h1 | h1
        · exact a3 d h1
        · omega
      have hDn : ∀ k, k ≤ H1.next → k ∉ D := fun k hk hd => by have := a3 k hd; omega
      have kk : ∀ k, k ≤ H1.next → H3.get k = Hb.get k := fun k hk => (hU3.2 k (by omega) (hDn k hk)).trans (un.2 k (by omega) (by simp))
      refine ⟨(kk _ (Nat.le_refl _)).trans eB, by omega, by omega, u3, D3, rfl, ?_, hD4, (kk _ (by omega)).trans e4, ?_, ?_, ?_⟩
      · rw [htn]
        exact hO3.keep (by rw [next_put]; exact Nat.le_refl _) fun d hd => by rw [get_put, if_neg (by have := hD4 d hd; omega)]
      · refine e5.keep (by rw [next_put]; omega) fun d hd => ?_
        have := hvlt d hd
        have := hDv d hd
        rw [get_put, if_neg (by omega), kk d (by omega)]
      · refine hX _ _ _ e6 (by rw [next_put]; omega) fun k hk => ?_
        rw [get_put, if_neg (by omega), kk k (by omega)]
      · refine Upd.put ⟨by have := e7.1; omega, fun k hk hkF => ?_⟩ (.inr (by omega))
        rw [kk k (by omega)]; exact e7.2 k hk hkF
  · have ho := hO.row.one
    (refine CodeH.of_vc [] hm (by kernel_rfl) ?_; simp (config := { dsimp := false, maxSteps := 10000000 }) (disch := omega) only [go_sem, reduceIte, Nat.reduceEqDiff, reduceCtorEq, Nat.reduceAdd, Nat.reduceMul, Int.reduceToNat, Int.reduceLE, Int.reduceLT, Int.reduceEq, Int.reduceNe, Nat.reduceLeDiff, Int.reducePow, Nat.reducePow, Nat.reduceLT, Nat.reduceSub, Nat.reduceMod, Nat.reduceDiv, slot_neg, slot_pos, T.ag_71, T.eb_71, T.ez_71, T.gf_39, T.ii_71, T.pl_82, T.s8_71, T.sl_71, T.st_71, T.un_71, T.zo_71, T.zo_82, init_a, hg, q5, ho.1, ho.2])
    exact ⟨s, D, hO, fun d hd => by have := hD d hd; omega, hx, hU⟩
theorem things_ph (h : Heap) (p id : Nat) (c : Ca) (at_ : Int) (hC : CaR isStrV h p id c) (hO : CaOk c) :
    @CallsH Try.prog 33 #[.pointer (some ⟨p, 0, none⟩), .int .i64 at_] h ⟨fun u H => CaR isStrV H p id (timeC c at_) ∧ Upd h H [p, id] ∧ ∃ s D, OwnRow tE H u D s ∧ (∀ d ∈ D, h.next ≤ d) ∧ s.Perm (timeC c at_).l ∧ s.Pairwise leT⟩ := by
  have hpn := hC.lt
  have hidn := hC.map.elim fun cl hM => hM.lt
  have hOk1 := hO.time at_
  refine (things_gen h _ at_ (fun H s => CaR isStrV H p id (timeC c at_) ∧ s.Perm (timeC c at_).l ∧ s.Pairwise leT) [p, id] (by simp; omega) (fun H H' s ⟨x1, x2, x3⟩ hn hk => ⟨⟨by have := x1.lt; omega, x1.ne, (hk p hpn).trans x1.at_, x1.map.imp fun cl hM => ⟨by have := hM.lt; omega, (hk id hidn).trans hM.at_, hM.keys, hM.one, hM.born, hM.clock⟩⟩, x2, x3⟩) ?_).mono fun u H ⟨s, D, k1, k2, ⟨k3, k4, k5⟩, k6⟩ => ⟨k3, k6, s, D, k1, k2, k4, k5⟩
  refine (AllS_ph _ p id c at_ (hC.upd (F := []) (Upd.alloc _ _ _) (by simp) (by simp)) hO).mono fun u H ⟨b, v, D, s, k1, k2, k3, k4, k5, k6, k7, k8, k9, k10⟩ => ?_
  have hb : h.next < b := k2
  refine ⟨b, v, D, s, k1, hb, k3, k4, k5, fun d hd => ⟨(k6 d hd).1, (k6 d hd).2⟩, ?_, ⟨k9, k7, k8⟩, k10⟩
  rw [k7.length_eq]
  have := hOk1.len
  omega
theorem thingsN_ph (h : Heap) (at_ : Int) :
    @CallsH Try.prog 33 #[.pointer none, .int .i64 at_] h ⟨fun u H => Upd h H [] ∧ ∃ D, OwnRow tE H u D []⟩ := by
  refine (things_gen h _ at_ (fun H s => s = []) [] (by simp) (fun H H' s hs _ _ => hs) ?_).mono fun u H ⟨s, D, k1, k2, k3, k6⟩ => ⟨k6, D, k3 ▸ k1⟩
  refine (AllN_ph _ at_).mono fun u H ⟨hu, hH⟩ => ?_
  subst hH
  refine ⟨_, .slice none 0 0, [], [], hu, Nat.lt_succ_self _, Nat.lt_succ_self _, by rw [get_alloc, if_pos rfl], OwnRow.nil _, by simp, by simp, rfl, Upd.alloc _ _ _⟩
end Ph
