import Derived.Test.YthghohhaagkbnaaC18
set_option maxRecDepth 100000
set_option maxHeartbeats 4000000
set_option linter.unusedSimpArgs false
set_option linter.unusedVariables false
namespace Ph
open Go Go.Proofs
attribute [local irreducible] Value.cells
attribute [local go_sem ↓] y_move y_assign y_pick y_nil y_bin y_un y_fa y_field y_ext y_ia y_ix y_slice y_build y_mf y_rg y_nx y_en y_mm y_lk y_mu y_del y_load y_len y_min y_max y_conv y_bs y_mk y_alloc y_box y_store y_clear y_app y_callf y_callt s_move s_assign s_pick s_nil s_bin s_un s_fa s_field s_ext s_ia s_ix s_slice s_conv s_build s_bs s_mf s_alloc s_box s_rg s_nx s_en s_mm s_lk s_mu s_del s_load s_store s_len s_clear s_min s_max s_app s_call q_call q_move q_assign q_pick q_nil q_bin q_un q_fa q_field q_ext q_ia q_ix q_slice q_conv q_build q_mf q_lk q_load q_len q_min q_max l_nil l_move l_assign l_pick l_nilc l_bin l_un l_fa l_field l_ext l_ia l_ix l_slice l_conv l_build l_mf l_lk l_load l_len l_min l_max l_call put_eq putN_eq o_nil o_plain o_gate v_nil v_plain v_gate vc_skip vc_region vc_seq vc_cond vc_block vc_loop vc_rf vc_exit vc_ret blk_normal blk_ret blk_exit on_normal on_ret on_exit vc_drawn draw_q s_mk l_bs l_mk l_rg l_nx l_en l_mm l_mu l_del l_alloc l_box l_store l_app l_clear pl_done pl_takeS pl_take pl_alt pl_stop one_plain one_gate
attribute [local go_sem] clear_nil clear_sl onAgg_a onTuple_t onFn_f onFn_y onFunc_f c_int c_nil c_sl c_str sl_sl sl_nil sl_str ix_str ix_agg n_nil n_sl n_str app_eq k_nil k_sl len_sl len_str len_mn len_m onMap_m onIter_i rg_n rg_m nx_p en_p lk_n lk_m up_m setM_n setM_s del_n del_m kt_s kt_i upd_some upd_none ev_tmp ev_const ev_func rd_some gdst_eq otmp_t otmp_c get_put get_alloc next_put next_alloc get_app next_app init_a resV1 resV2 onPtr_ptr onBool_b onInt_i onSlice_s onSome_s onCells_c lett_eq gate_tt gate_tf gate_ff gate_ft gate_dt gate_df also_eq bin un minmax io_none io_some bo_none bo_some partOf List.getElem?_cons_zero List.getElem?_cons_succ List.getElem?_toArray Option.map_some Option.map_none Option.bind_some ne_eq not_true_eq_false not_false_eq_true false_implies true_implies and_true true_and and_self Bool.false_eq_true Nat.zero_add Nat.add_zero List.size_toArray List.length_cons List.length_nil List.map_toArray List.map_cons List.map_nil Array.getD_eq_getD_getElem? Option.getD_some Bool.not_true Bool.not_false Bool.not_eq_true Option.isNone_some Option.isNone_none List.append_toArray List.append_nil List.nil_append List.cons_append decide_true decide_false in_nil in_cons Bool.and_false Bool.and_true Bool.or_false Bool.true_or Bool.false_or get_mask next_mask get_unmask next_unmask ac_move ac_assign ac_pick ac_nil ac_bin ac_un ac_fa ac_field ac_ext ac_ia ac_ix ac_slice ac_build ac_mf ac_call ac_len ac_lk ac_min ac_max accM_m accM_n accM_s accM_t ac_load ac_conv accP_p accS_s accS_n accS_i accS_t fixed_ro fixed_lock fixed_own get_ro next_ro lock_live' lock_cells List.mem_cons List.not_mem_nil or_false false_or or_true true_or and_false false_and IntKind.bits Int.natCast_zero Int.natCast_one size_str data_str list_str mk_str ext_str app_str bytes_str w_byte w_byteu Int.toNat_natCast Int.toNat_zero Int.toNat_one Nat.sub_zero ge_iff_le gt_iff_lt Nat.le_refl Int.le_refl List.drop_zero Int.ofNat_eq_natCast Int.natCast_nonneg Int.sub_zero oc_int oc_bool oc_str oc_ptr oc_sl oc_map oc_func List.set_cons_zero List.set_cons_succ Nat.mul_one List.all_cons List.all_nil Bool.and_self res_nil res_tmp res_cell tup_one tup_two tup_nil fill_nil repl_zero cells_agg List.append_eq List.toList_toArray Nat.zero_mul Nat.one_mul repl_one repl_two onSome_build fill_cons onSome_lit splice_eq cells_int cells_bool cells_str cells_ptr cells_sl cells_map cells_func loadK_n loadK_s load_k storeK_n storeK_s store_k all_arr List.take_zero List.take_succ_cons List.drop_succ_cons List.take_nil List.drop_nil lk_own lk_ro lk_lock lk_lk fixed_lk gate_nt gate_nf gate3_b gate3_u undef Bool.true_and Bool.false_and nx_l nx_r nx_lt put_put resV0
/-! CacheBound: what it is about. -/
/-- slices.SortFunc, slices.SortedFunc of things -/
theorem SortI_ph (h : Heap) (v : Value) (D : List Nat) (l : List Th) (hO : OwnRow thE h v D l) (hl : l.length ≤ 10000) :
    @CallsH Try.prog 84 #[v, .func (.func 44) #[] #[]] h ⟨fun _ H => ∃ l', l'.Perm l ∧ l'.Pairwise leT ∧ OwnRow thE H v D l' ∧ Upd h H D⟩ := by
  by_cases h0 : l = []
  · subst h0
    obtain ⟨A, st, hv⟩ := hO.form
    refine (SortNone_ph Try.sortI h v _ ⟨A, st, hv⟩).mono fun u H ⟨_, hH⟩ => ?_
    subst hH
    exact ⟨[], .nil, .nil, hO, Upd.refl _ _⟩
  · rcases hO with ⟨_, h1, _⟩ | ⟨q, off, vs, rfl, hqn, rfl, hq, hR⟩
    · exact absurd h1 h0
    · have hp : 0 < l.length := List.length_pos_iff.2 h0
      refine (SortFunc_ph (E := thE) Try.sortI (fun w => Try.isAgg93 w) (fun w => Try.sizeOf93 w) (by decide) ordS_swo (by kernel_rfl) (fun x y H => orderI_ph H x y) h q off vs l hq hR hp (by omega)).mono fun u H ⟨_, l', vs', hp', hs, hH, hR', hlen⟩ => ?_
      subst hH
      refine ⟨l', hp', hs.imp fun {a b} hab => ?_, .inr ⟨q, off, vs', rfl, hqn, by rw [hp'.length_eq], by rw [get_put, if_pos rfl], hR'⟩, (Upd.refl _ _).put (.inl (by simp))⟩
      rw [ord_lt] at hab
      exact Decidable.not_not.1 hab
theorem SortedI_ph (h : Heap) (b id : Nat) (l : List Th) (cl : Nat) (hb : l.Pairwise fun a b => a.born < b.born) (hcl : ∀ x ∈ l, x.born < cl) (hll : l.length ≤ 10000) (o : Own) (gb : h.get b = .live (.cells [.map (some id)] o)) (gm : h.get id = .live (.map (ents l) cl .own)) (hbn : b < h.next) (hidn : id < h.next) :
    @CallsH Try.prog 58 #[.func (.func 72) #[] #[.pointer (some ⟨b, 0, none⟩)], .func (.func 44) #[] #[]] h ⟨fun u H => ∃ s D, s.Perm l ∧ s.Pairwise leT ∧ OwnRow thE H u D s ∧ (∀ d ∈ D, h.next ≤ d) ∧ Upd h H []⟩ := by
  (refine calls_of_vc [] hm Try.func58 rfl (ts := [4]) rfl (by kernel_rfl) (by simp) ?_; simp (config := { dsimp := false, maxSteps := 10000000 }) (disch := omega) only [go_sem, reduceIte, Nat.reduceEqDiff, reduceCtorEq, Nat.reduceAdd, Nat.reduceMul, Int.reduceToNat, Int.reduceLE, Int.reduceLT, Int.reduceEq, Int.reduceNe, Nat.reduceLeDiff, Int.reducePow, Nat.reducePow, Nat.reduceLT, Nat.reduceSub, Nat.reduceMod, Nat.reduceDiv, slot_neg, slot_pos, T.gf_42, T.gf_84, init_a])
  refine (CollectI_ph h b id l cl hb hcl hll o gb gm hbn hidn).mono fun u H ⟨s, D, h1, h2, h3, h4⟩ => ?_
  have ho := h2.row.one
  simp (config := { dsimp := false, maxSteps := 10000000 }) (disch := omega) only [go_sem, reduceIte, Nat.reduceEqDiff, reduceCtorEq, Nat.reduceAdd, Nat.reduceMul, Int.reduceToNat, Int.reduceLE, Int.reduceLT, Int.reduceEq, Int.reduceNe, Nat.reduceLeDiff, Int.reducePow, Nat.reducePow, Nat.reduceLT, Nat.reduceSub, Nat.reduceMod, Nat.reduceDiv, slot_neg, slot_pos, T.gf_42, T.gf_84, ho.1, ho.2]
  refine (SortI_ph H u D s h2 (by rw [h1.length_eq]; exact hll)).mono fun _ H2 ⟨l', k1, k2, k3, k4⟩ => ?_
  simp (config := { dsimp := false, maxSteps := 10000000 }) (disch := omega) only [go_sem, reduceIte, Nat.reduceEqDiff, reduceCtorEq, Nat.reduceAdd, Nat.reduceMul, Int.reduceToNat, Int.reduceLE, Int.reduceLT, Int.reduceEq, Int.reduceNe, Nat.reduceLeDiff, Int.reducePow, Nat.reducePow, Nat.reduceLT, Nat.reduceSub, Nat.reduceMod, Nat.reduceDiv, slot_neg, slot_pos, T.gf_42, T.gf_84, ho.1, ho.2]
  exact ⟨l', D, k1.trans h1, k2, k3, h3, h4.trans k4 fun d hd => .inr (h3 d hd)⟩
/-- All -/
theorem AllI_ph (h : Heap) (p id : Nat) (c : Ca) (at_ : Int) (hC : CaR isIntV h p id c) (hO : CaOk c) :
    @CallsH Try.prog 27 #[.pointer (some ⟨p, 0, none⟩), .int .i64 at_] h ⟨fun u H => ∃ b v D s, u = .func (.func 59) #[] #[.pointer (some ⟨b, 0, none⟩)] ∧ h.next ≤ b ∧ b < H.next ∧ H.get b = .live (.cells [v] .own) ∧ OwnRow thE H v D s ∧ (∀ d ∈ D, h.next ≤ d ∧ d ≠ b) ∧ s.Perm (timeC c at_).l ∧ s.Pairwise leT ∧ CaR isIntV H p id (timeC c at_) ∧ Upd h H [p, id]⟩ := by
  have hpn := hC.lt
  have hidn := hC.map.elim fun cl hM => hM.lt
  have hOk := hO.time at_
  (refine calls_of_vc [] hm Try.func27 rfl (ts := [4]) rfl (by kernel_rfl) (by simp) ?_; simp (config := { dsimp := false, maxSteps := 10000000 }) (disch := omega) only [go_sem, reduceIte, Nat.reduceEqDiff, reduceCtorEq, Nat.reduceAdd, Nat.reduceMul, Int.reduceToNat, Int.reduceLE, Int.reduceLT, Int.reduceEq, Int.reduceNe, Nat.reduceLeDiff, Int.reducePow, Nat.reducePow, Nat.reduceLT, Nat.reduceSub, Nat.reduceMod, Nat.reduceDiv, slot_neg, slot_pos, T.ag_88, T.ag_95, T.fo_90_0, T.gf_40, T.gf_43, T.gf_44, T.gf_58, T.ib_24, T.ip_24, T.zo_95, init_a])
  refine (timeI_ph _ p id c at_ (hC.upd (F := []) (Upd.alloc _ _ _) (by simp) (by simp))).mono fun u H ⟨hC1, hU⟩ => ?_
  have g0 : H.get h.next = .live (.cells [.slice none 0 0] .own) := (hU.2 h.next (Nat.lt_succ_self _) (by simp; omega)).trans (by rw [get_alloc, if_pos rfl])
  have hUh : Upd h H [p, id] := (Upd.alloc h _ [p, id]).trans hU (by simp)
  have hn : h.next < H.next := Nat.lt_of_lt_of_le (Nat.lt_succ_self _) hU.1
  generalize timeC c at_ = c1 at *
  obtain ⟨hpn1, hpi, hp, cl, hM⟩ := hC1
  simp (config := { dsimp := false, maxSteps := 10000000 }) (disch := omega) only [go_sem, reduceIte, Nat.reduceEqDiff, reduceCtorEq, Nat.reduceAdd, Nat.reduceMul, Int.reduceToNat, Int.reduceLE, Int.reduceLT, Int.reduceEq, Int.reduceNe, Nat.reduceLeDiff, Int.reducePow, Nat.reducePow, Nat.reduceLT, Nat.reduceSub, Nat.reduceMod, Nat.reduceDiv, slot_neg, slot_pos, T.ag_88, T.ag_95, T.fo_90_0, T.gf_40, T.gf_43, T.gf_44, T.gf_58, T.ib_24, T.ip_24, T.zo_95, hp, caC]
  refine (ValuesI_ph H id).mono fun u H2 ⟨hu, hH⟩ => ?_
  subst hu hH
  simp (config := { dsimp := false, maxSteps := 10000000 }) (disch := omega) only [go_sem, reduceIte, Nat.reduceEqDiff, reduceCtorEq, Nat.reduceAdd, Nat.reduceMul, Int.reduceToNat, Int.reduceLE, Int.reduceLT, Int.reduceEq, Int.reduceNe, Nat.reduceLeDiff, Int.reducePow, Nat.reducePow, Nat.reduceLT, Nat.reduceSub, Nat.reduceMod, Nat.reduceDiv, slot_neg, slot_pos, T.ag_88, T.ag_95, T.fo_90_0, T.gf_40, T.gf_43, T.gf_44, T.gf_58, T.ib_24, T.ip_24, T.zo_95]
  refine (SortedI_ph _ H.next id c1.l cl hM.born hM.clock (by have := hOk.len; omega) .own (by rw [get_alloc, if_pos rfl]) (by rw [get_alloc, if_neg (by have := hM.lt; omega)]; exact hM.at_) (Nat.lt_succ_self _) (Nat.lt_succ_of_lt hM.lt)).mono fun u H3 ⟨s, D, k1, k2, k3, k4, k5⟩ => ?_
  have k5' : Upd H H3 [] := (Upd.alloc _ _ _).trans k5 (by simp)
  have g3 := (k5'.2 h.next hn (by simp)).trans g0
  have ho := k3.row.one
  simp (config := { dsimp := false, maxSteps := 10000000 }) (disch := omega) only [go_sem, reduceIte, Nat.reduceEqDiff, reduceCtorEq, Nat.reduceAdd, Nat.reduceMul, Int.reduceToNat, Int.reduceLE, Int.reduceLT, Int.reduceEq, Int.reduceNe, Nat.reduceLeDiff, Int.reducePow, Nat.reducePow, Nat.reduceLT, Nat.reduceSub, Nat.reduceMod, Nat.reduceDiv, slot_neg, slot_pos, T.ag_88, T.ag_95, T.fo_90_0, T.gf_40, T.gf_43, T.gf_44, T.gf_58, T.ib_24, T.ip_24, T.zo_95, g3, ho.1, ho.2]
  have hDn : ∀ d ∈ D, h.next ≤ d ∧ d ≠ h.next := fun d hd => by have := k4 d hd; have : H.next < d := this; omega
  refine ⟨h.next, u, D, s, rfl, Nat.le_refl _, by have := k5'.1; omega, if_pos rfl, k3.keep (by rw [next_put]; exact Nat.le_refl _) fun d hd => by rw [get_put, if_neg (hDn d hd).2], hDn, k1, k2, ?_, (hUh.trans k5' (by simp)).put (.inr (Nat.le_refl _))⟩
  exact CaR.upd (F := []) ⟨hpn1, hpi, hp, cl, hM⟩ k5' (by simp) (by simp) |>.upd (F := [h.next]) ((Upd.refl _ _).put (.inl (by simp))) (by simp; omega) (by simp; omega)
theorem AllSeqI (b : Nat) (v : Value) (l : List Th) (hl : l.length < 9223372036854775807) : SeqH Try.prog 59 #[.pointer (some ⟨b, 0, none⟩)] (l.map fun x : Th => #[x.key, x.val]) (fun H => b < H.next ∧ ∃ o, H.get b = .live (.cells [v] o) ∧ RowIn thE H v l ∧ ∀ A n st, v = .slice (some A) n st → A.block < H.next) := by
  intro id J Jx h h0 hJ hst hY
  rw [List.length_map]
  obtain ⟨_, o, hb, hr, _⟩ := hJ 0 h h0
  obtain ⟨A, st, hv⟩ := hr.form
  (refine calls_of_vc [] hm Try.func59 rfl (ts := []) rfl (by kernel_rfl) (by simp) ?_; simp (config := { dsimp := false, maxSteps := 10000000 }) (disch := omega) only [go_sem, reduceIte, Nat.reduceEqDiff, reduceCtorEq, Nat.reduceAdd, Nat.reduceMul, Int.reduceToNat, Int.reduceLE, Int.reduceLT, Int.reduceEq, Int.reduceNe, Nat.reduceLeDiff, Int.reducePow, Nat.reducePow, Nat.reduceLT, Nat.reduceSub, Nat.reduceMod, Nat.reduceDiv, slot_neg, slot_pos, T.ag_3, T.ag_93, T.ag_95, T.es_95, T.fo_93_0, T.fo_93_1, T.ib_3, T.ii_95, T.ip_3, T.s8_95, T.sl_95, T.st_95, T.un_95, T.zo_93, init_a, hb, hv])
  refine loop_intro [] hm (fun r H => ∃ i : Nat, i ≤ l.length ∧ J i H ∧ r 0 = .func (.yield id) #[] #[] ∧ r 5 = v ∧ r 6 = .int .i64 l.length ∧ r 7 = .int .i64 i) (fun r _ => match r 7 with | .int _ i => l.length - i.toNat | _ => 0) ?_ ?_
  · exact ⟨0, by omega, h0, by simp [upd, initR], by simp [upd, hv], by simp [upd], by simp [upd]⟩
  · rintro r H ⟨i, hi, hJi, q0, q5, q6, q7⟩
    obtain ⟨hbn, o, hb, hr, hlt0⟩ := hJ i H hJi
    by_cases hlt : i < l.length
    · have hlt' : ((i : Int) < (l.length : Int)) = True := eq_true (by omega)
      have hx : l[i]? = some l[i] := List.getElem?_eq_getElem hlt
      have w1 : IntKind.i64.wrap ((i : Int) + 1) = ((i + 1 : Nat) : Int) := by rw [i64wrap] <;> omega
      rcases hr with ⟨_, hnil⟩ | ⟨q, off, vs, o2, hv', hq, hR⟩
      · rw [hnil] at hlt; simp at hlt
      have hqn : q < H.next := hlt0 _ _ _ hv'
      have n1 : (q = H.next) = False := eq_false (by omega)
      have hb1 := hR.at hx
      generalize l[i] = x at hx hb1
      rw [show thE.k = 4 from rfl] at hb1 hv'
      have hx1 := x.one
      have hye : thE.enc x = [x.key, x.val, .int .i64 x.goes, .int .i64 x.put] := rfl
      rw [hv'] at q5
      simp (config := { dsimp := false, maxSteps := 10000000 }) (disch := omega) only [go_sem, reduceIte, Nat.reduceEqDiff, reduceCtorEq, Nat.reduceAdd, Nat.reduceMul, Int.reduceToNat, Int.reduceLE, Int.reduceLT, Int.reduceEq, Int.reduceNe, Nat.reduceLeDiff, Int.reducePow, Nat.reducePow, Nat.reduceLT, Nat.reduceSub, Nat.reduceMod, Nat.reduceDiv, slot_neg, slot_pos, T.ag_3, T.ag_93, T.ag_95, T.es_95, T.fo_93_0, T.fo_93_1, T.ib_3, T.ii_95, T.ip_3, T.s8_95, T.sl_95, T.st_95, T.un_95, T.zo_93, q0, q5, q6, q7, hq, hb1.1, hye, hlt', n1, hx1.1, hx1.2]
      obtain ⟨H1, hH1⟩ : ∃ H1, (H.alloc (.cells [.int .i64 0, .int .i64 0, .int .i64 0, .int .i64 0] .own)).put H.next (.live (.cells [x.key, x.val, .int .i64 x.goes, .int .i64 x.put] .own)) = H1 := ⟨_, rfl⟩
      rw [hH1]
      have hJ1 : J i H1 := hst i H H1 hJi (by rw [← hH1]; exact (Upd.alloc _ _ _).put (.inr (Nat.le_refl _)))
      refine ⟨hb1.2, (hY i #[x.key, x.val] H1 (by rw [List.getElem?_map, hx]; rfl) hJ1).mono fun u H' hu => ?_⟩
      rcases hu with ⟨rfl, hJ'⟩ | ⟨rfl, hX⟩
      · simp (config := { dsimp := false, maxSteps := 10000000 }) (disch := omega) only [go_sem, reduceIte, Nat.reduceEqDiff, reduceCtorEq, Nat.reduceAdd, Nat.reduceMul, Int.reduceToNat, Int.reduceLE, Int.reduceLT, Int.reduceEq, Int.reduceNe, Nat.reduceLeDiff, Int.reducePow, Nat.reducePow, Nat.reduceLT, Nat.reduceSub, Nat.reduceMod, Nat.reduceDiv, slot_neg, slot_pos, T.ag_3, T.ag_93, T.ag_95, T.es_95, T.fo_93_0, T.fo_93_1, T.ib_3, T.ii_95, T.ip_3, T.s8_95, T.sl_95, T.st_95, T.un_95, T.zo_93, q0, q5, q6, q7, w1, hv']
        exact ⟨⟨i + 1, hlt, hJ', rfl⟩, by omega⟩
      · simp (config := { dsimp := false, maxSteps := 10000000 }) (disch := omega) only [go_sem, reduceIte, Nat.reduceEqDiff, reduceCtorEq, Nat.reduceAdd, Nat.reduceMul, Int.reduceToNat, Int.reduceLE, Int.reduceLT, Int.reduceEq, Int.reduceNe, Nat.reduceLeDiff, Int.reducePow, Nat.reducePow, Nat.reduceLT, Nat.reduceSub, Nat.reduceMod, Nat.reduceDiv, slot_neg, slot_pos, T.ag_3, T.ag_93, T.ag_95, T.es_95, T.fo_93_0, T.fo_93_1, T.ib_3, T.ii_95, T.ip_3, T.s8_95, T.sl_95, T.st_95, T.un_95, T.zo_93, q0, q5, q6, q7]
        exact .inr hX
    · have hlt' : ((i : Int) < (l.length : Int)) = False := eq_false (by omega)
      simp (config := { dsimp := false, maxSteps := 10000000 }) (disch := omega) only [go_sem, reduceIte, Nat.reduceEqDiff, reduceCtorEq, Nat.reduceAdd, Nat.reduceMul, Int.reduceToNat, Int.reduceLE, Int.reduceLT, Int.reduceEq, Int.reduceNe, Nat.reduceLeDiff, Int.reducePow, Nat.reducePow, Nat.reduceLT, Nat.reduceSub, Nat.reduceMod, Nat.reduceDiv, slot_neg, slot_pos, T.ag_3, T.ag_93, T.ag_95, T.es_95, T.fo_93_0, T.fo_93_1, T.ib_3, T.ii_95, T.ip_3, T.s8_95, T.sl_95, T.st_95, T.un_95, T.zo_93, q0, q5, q6, q7, hlt']
      obtain rfl : i = l.length := by omega
      exact .inl hJi

theorem erase_put {l : List Th} (hb : l.Pairwise fun a b => a.put < b.put) {i : Nat} {x : Th} (hx : l[i]? = some x) : l.eraseIdx i = l.filter fun y => !(y.put == x.put) := by
  induction l generalizing i with
  | nil => simp at hx
  | cons z l ih =>
    rw [List.pairwise_cons] at hb
    cases i with
    | zero =>
      simp at hx; subst hx
      rw [List.eraseIdx_cons_zero, List.filter_cons, if_neg (by simp)]
      refine (List.filter_eq_self.2 fun y hy => ?_).symm
      have := hb.1 y hy
      simp; omega
    | succ i =>
      simp at hx
      have hxm := List.mem_of_getElem? hx
      have := hb.1 x hxm
      rw [List.eraseIdx_cons_succ, List.filter_cons, if_pos (by simp; omega), ih hb.2 hx]
theorem dropMin_one {l : List Th} (ha : l.Pairwise fun a b => a.put < b.put) (h0 : l ≠ []) : (dropMin l).length + 1 = l.length := by
  obtain ⟨x, hx, hmin⟩ := minT h0
  obtain ⟨i, hi⟩ := List.getElem?_of_mem hx
  have e : dropMin l = l.eraseIdx i := by
    rw [erase_put ha hi]
    unfold dropMin
    refine List.filter_congr fun y hy => ?_
    by_cases e : y = x
    · subst e; rw [decide_eq_true hmin]; simp
    · have h2 : (y.put == x.put) = false := by simp; exact fun e2 => e (put_inj ha hy hx e2)
      rw [h2, decide_eq_false]
      intro h3
      have h4 := h3 x hx
      have h5 := hmin y hy
      simp at h2
      unfold leT at h4 h5; omega
  have hil := (List.getElem?_eq_some_iff.1 hi).1
  rw [e, List.length_eraseIdx, if_pos hil]; omega
structure BI (M : Nat) (i : Nat) (c : Ca) : Prop where
  ok : CaOk c
  most : c.most = M
  now : c.now = 0
  puts : c.puts ≤ i
  shape : ∀ x ∈ c.l, ∃ j : Nat, j < i ∧ x.key = .int .i64 j ∧ x.val = .int .i64 x.goes ∧ 0 < x.goes
  len : c.l.length = min i M
theorem BI.start (M : Nat) (h1 : 1 ≤ M) (h2 : M ≤ 10) : BI M 0 ⟨[], M, 0, 0⟩ := ⟨⟨by show (1:Int) ≤ M; omega, ⟨by simp, by show (0:Int) ≤ farC; decide⟩, by simp, by simp, by simp, by show (0:Int) ≤ M ∧ (M:Int) ≤ 10000; omega⟩, rfl, rfl, by simp, by simp, by simp⟩
theorem BI.time {M i : Nat} {c : Ca} (h : BI M i c) : timeC c 0 = c := by
  have e : nowC c 0 = 0 := nowZ c h.now
  have e2 : c.l.filter (fun x => !decide (x.goes ≤ nowC c 0)) = c.l := List.filter_eq_self.2 fun x hx => by
    obtain ⟨j, _, _, _, h4⟩ := h.shape x hx
    rw [e]; simp; omega
  unfold timeC
  rw [e2, e, ← h.now]
theorem BI.put {M i : Nat} {c : Ca} (h : BI M i c) (hM : 1 ≤ M) (k : Int) (hk : 0 < k ∧ k ≤ 1000) (b : Nat) (one : (Value.int .i64 (i : Int)).oneCell' = true ∧ (Value.int .i64 k).oneCell' = true) :
    BI M (i + 1) (putS c (.int .i64 (i : Int)) (.int .i64 k) k 0 b one) ∧ (∀ x ∈ (putS c (.int .i64 (i : Int)) (.int .i64 k) k 0 b one).l, x.key = .int .i64 (i : Int) → x.val = .int .i64 k ∧ x.goes = k) ∧ ∃ x ∈ (putS c (.int .i64 (i : Int)) (.int .i64 k) k 0 b one).l, x.key = .int .i64 (i : Int) := by
  have hok := h.ok.put (k := .int .i64 (i : Int)) (v := .int .i64 k) (keep := k) (at_ := 0) (b := b) (one := one)
  have hw : Ph.without c (.int .i64 (i : Int)) = c := by
    have : c.l.filter (fun x => !keq (.int .i64 (i : Int)) x.key) = c.l := List.filter_eq_self.2 fun x hx => by
      obtain ⟨j, hj, e, _⟩ := h.shape x hx
      rw [e, keq_no kind_int ⟨_, rfl⟩ ⟨_, rfl⟩ (by intro e2; injection e2 with _ e3; omega)]; rfl
    unfold Ph.without; rw [this]
  have hput : putS c (.int .i64 (i : Int)) (.int .i64 k) k 0 b one = { c with l := (if c.most ≤ (c.l.length : Int) then dropMin c.l else c.l) ++ [⟨.int .i64 (i : Int), .int .i64 k, c.now + k, c.puts + 1, b, one⟩], puts := c.puts + 1 } := by
    unfold putS
    rw [h.time, hw]
    dsimp only
    rw [if_neg (by omega)]
  have hsub : (if c.most ≤ (c.l.length : Int) then dropMin c.l else c.l).Sublist c.l := by
    split
    · exact List.filter_sublist ..
    · exact List.Sublist.refl _
  have hl3 : (if c.most ≤ (c.l.length : Int) then dropMin c.l else c.l).length + 1 = min (i + 1) M := by
    have hm := h.most
    have hl := h.len
    split
    · rename_i hfull
      have := dropMin_one h.ok.asc (fun e => by have h9 : (c.l.length : Int) = 0 := by rw [e]; rfl
                                                omega)
      omega
    · omega
  rw [hput] at hok ⊢
  refine ⟨⟨hok, h.most, h.now, by have := h.puts; simp only; omega, fun x hx => ?_, ?_⟩, fun x hx e => ?_, _, List.mem_append.2 (.inr (List.mem_singleton.2 rfl)), rfl⟩
  · rcases List.mem_append.1 hx with h1 | h1
    · obtain ⟨j, a1, a2, a3, a4⟩ := h.shape x (hsub.subset h1)
      exact ⟨j, by omega, a2, a3, a4⟩
    · rw [List.mem_singleton.1 h1]
      have := h.now
      exact ⟨i, by omega, rfl, by show Value.int .i64 k = .int .i64 (c.now + k); rw [this, Int.zero_add], by show 0 < c.now + k; omega⟩
  · simp only [List.length_append, List.length_singleton]; exact hl3
  · rcases List.mem_append.1 hx with h1 | h1
    · obtain ⟨j, a1, a2, _⟩ := h.shape x (hsub.subset h1)
      rw [e] at a2; injection a2 with _ a3; omega
    · rw [List.mem_singleton.1 h1]
      have := h.now
      exact ⟨rfl, by show c.now + k = k; omega⟩
end Ph
