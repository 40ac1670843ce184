import Derived.Test.YthghohhaagkbnaaC13
set_option maxRecDepth 100000
set_option maxHeartbeats 4000000
set_option linter.unusedSimpArgs false
set_option linter.unusedVariables false
namespace Ph
open Go Go.Proofs
attribute [local irreducible] Value.cells
attribute [local go_sem ↓] y_move y_assign y_pick y_nil y_bin y_un y_fa y_field y_ext y_ia y_ix y_slice y_build y_mf y_rg y_nx y_en y_mm y_lk y_mu y_del y_load y_len y_min y_max y_conv y_bs y_mk y_alloc y_box y_store y_clear y_app y_callf y_callt s_move s_assign s_pick s_nil s_bin s_un s_fa s_field s_ext s_ia s_ix s_slice s_conv s_build s_bs s_mf s_alloc s_box s_rg s_nx s_en s_mm s_lk s_mu s_del s_load s_store s_len s_clear s_min s_max s_app s_call q_call q_move q_assign q_pick q_nil q_bin q_un q_fa q_field q_ext q_ia q_ix q_slice q_conv q_build q_mf q_lk q_load q_len q_min q_max l_nil l_move l_assign l_pick l_nilc l_bin l_un l_fa l_field l_ext l_ia l_ix l_slice l_conv l_build l_mf l_lk l_load l_len l_min l_max l_call put_eq putN_eq o_nil o_plain o_gate v_nil v_plain v_gate vc_skip vc_region vc_seq vc_cond vc_block vc_loop vc_rf vc_exit vc_ret blk_normal blk_ret blk_exit on_normal on_ret on_exit vc_drawn draw_q s_mk l_bs l_mk l_rg l_nx l_en l_mm l_mu l_del l_alloc l_box l_store l_app l_clear pl_done pl_takeS pl_take pl_alt pl_stop one_plain one_gate
attribute [local go_sem] clear_nil clear_sl onAgg_a onTuple_t onFn_f onFn_y onFunc_f c_int c_nil c_sl c_str sl_sl sl_nil sl_str ix_str ix_agg n_nil n_sl n_str app_eq k_nil k_sl len_sl len_str len_mn len_m onMap_m onIter_i rg_n rg_m nx_p en_p lk_n lk_m up_m setM_n setM_s del_n del_m kt_s kt_i upd_some upd_none ev_tmp ev_const ev_func rd_some gdst_eq otmp_t otmp_c get_put get_alloc next_put next_alloc get_app next_app init_a resV1 resV2 onPtr_ptr onBool_b onInt_i onSlice_s onSome_s onCells_c lett_eq gate_tt gate_tf gate_ff gate_ft gate_dt gate_df also_eq bin un minmax io_none io_some bo_none bo_some partOf List.getElem?_cons_zero List.getElem?_cons_succ List.getElem?_toArray Option.map_some Option.map_none Option.bind_some ne_eq not_true_eq_false not_false_eq_true false_implies true_implies and_true true_and and_self Bool.false_eq_true Nat.zero_add Nat.add_zero List.size_toArray List.length_cons List.length_nil List.map_toArray List.map_cons List.map_nil Array.getD_eq_getD_getElem? Option.getD_some Bool.not_true Bool.not_false Bool.not_eq_true Option.isNone_some Option.isNone_none List.append_toArray List.append_nil List.nil_append List.cons_append decide_true decide_false in_nil in_cons Bool.and_false Bool.and_true Bool.or_false Bool.true_or Bool.false_or get_mask next_mask get_unmask next_unmask ac_move ac_assign ac_pick ac_nil ac_bin ac_un ac_fa ac_field ac_ext ac_ia ac_ix ac_slice ac_build ac_mf ac_call ac_len ac_lk ac_min ac_max accM_m accM_n accM_s accM_t ac_load ac_conv accP_p accS_s accS_n accS_i accS_t fixed_ro fixed_lock fixed_own get_ro next_ro lock_live' lock_cells List.mem_cons List.not_mem_nil or_false false_or or_true true_or and_false false_and IntKind.bits Int.natCast_zero Int.natCast_one size_str data_str list_str mk_str ext_str app_str bytes_str w_byte w_byteu Int.toNat_natCast Int.toNat_zero Int.toNat_one Nat.sub_zero ge_iff_le gt_iff_lt Nat.le_refl Int.le_refl List.drop_zero Int.ofNat_eq_natCast Int.natCast_nonneg Int.sub_zero oc_int oc_bool oc_str oc_ptr oc_sl oc_map oc_func List.set_cons_zero List.set_cons_succ Nat.mul_one List.all_cons List.all_nil Bool.and_self res_nil res_tmp res_cell tup_one tup_two tup_nil fill_nil repl_zero cells_agg List.append_eq List.toList_toArray Nat.zero_mul Nat.one_mul repl_one repl_two onSome_build fill_cons onSome_lit splice_eq cells_int cells_bool cells_str cells_ptr cells_sl cells_map cells_func loadK_n loadK_s load_k storeK_n storeK_s store_k all_arr List.take_zero List.take_succ_cons List.drop_succ_cons List.take_nil List.drop_nil lk_own lk_ro lk_lock lk_lk fixed_lk gate_nt gate_nf gate3_b gate3_u undef Bool.true_and Bool.false_and nx_l nx_r nx_lt put_put resV0
/-! The document's cache: All. -/
theorem ins_sorted {l1 l2 : List Th} {x : Th} (h : (l1 ++ l2).Pairwise leT) (h1 : ∀ y ∈ l1, y.goes ≤ x.goes ∧ y.put < x.put) (h2 : ∀ y ∈ l2, y.put < x.put) (h3 : ∀ y, l2[0]? = some y → x.goes < y.goes) : (l1 ++ x :: l2).Pairwise leT := by
  rw [List.pairwise_append] at h ⊢
  obtain ⟨a1, a2, a3⟩ := h
  have hx2 : ∀ y ∈ l2, leT x y := fun y hy => by
    cases l2 with
    | nil => simp at hy
    | cons z l2 =>
      have hz := h3 z rfl
      rcases List.mem_cons.1 hy with rfl | hy
      · exact .inl hz
      · have := (List.pairwise_cons.1 a2).1 y hy
        unfold leT at *; omega
  refine ⟨a1, List.pairwise_cons.2 ⟨hx2, a2⟩, fun a ha b hb => ?_⟩
  rcases List.mem_cons.1 hb with rfl | hb
  · have := h1 a ha; unfold leT; omega
  · exact a3 a ha b hb
theorem Rall_ph (h : Heap) (p : Nat) (D : List Nat) (v : Value) (c : Ca) (at_ : Int) (hC : RfR h p D v c) (hO : CaOk c) :
    @CallsH Try.prog 38 #[.pointer (some ⟨p, 0, none⟩), .int .i64 at_] h ⟨fun u H => (∃ D' v', RfR H p D' v' (timeC c at_) ∧ (∀ d ∈ D', h.next ≤ d) ∧ Upd h H [p]) ∧ ∃ s Du, OwnRow refE H u Du s ∧ (∀ d ∈ Du, h.next ≤ d) ∧ s.Perm (timeC c at_).l ∧ s.Pairwise leT⟩ := by
  have hpn := hC.lt
  have hOk1 := hO.time at_
  (refine calls_of_codeR (rs := [.tmp 4]) Try.func38 rfl rfl (by simp) ?_)
  (refine CodeH.seq' (CodeH.of_vc [] hm (by kernel_rfl) ?_); simp (config := { dsimp := false, maxSteps := 10000000 }) (disch := omega) only [go_sem, reduceIte, Nat.reduceEqDiff, reduceCtorEq, Nat.reduceAdd, Nat.reduceMul, Int.reduceToNat, Int.reduceLE, Int.reduceLT, Int.reduceEq, Int.reduceNe, Nat.reduceLeDiff, Int.reducePow, Nat.reducePow, Nat.reduceLT, Nat.reduceSub, Nat.reduceMod, Nat.reduceDiv, slot_neg, slot_pos, T.ag_3, T.ag_71, T.ag_82, T.eb_71, T.es_71, T.ez_71, T.fo_77_0, T.fo_82_2, T.gf_65, T.ib_3, T.ii_71, T.ip_3, T.s8_71, T.sl_71, T.st_71, T.un_71, init_a])
  refine CodeH.seq (fun r H => (∃ D' v', RfR H p D' v' (timeC c at_) ∧ (∀ d ∈ D', h.next ≤ d) ∧ Upd h H [p]) ∧ r 0 = .pointer (some ⟨p, 0, none⟩)) (CodeH.of_vc [] hm (by kernel_rfl) ?_) fun r H1 ⟨⟨D1, v1, hC1, hD1, hU1⟩, q0⟩ => ?_
  · simp (config := { dsimp := false, maxSteps := 10000000 }) (disch := omega) only [go_sem, reduceIte, Nat.reduceEqDiff, reduceCtorEq, Nat.reduceAdd, Nat.reduceMul, Int.reduceToNat, Int.reduceLE, Int.reduceLT, Int.reduceEq, Int.reduceNe, Nat.reduceLeDiff, Int.reducePow, Nat.reducePow, Nat.reduceLT, Nat.reduceSub, Nat.reduceMod, Nat.reduceDiv, slot_neg, slot_pos, T.ag_3, T.ag_71, T.ag_82, T.eb_71, T.es_71, T.ez_71, T.fo_77_0, T.fo_82_2, T.gf_65, T.ib_3, T.ii_71, T.ip_3, T.s8_71, T.sl_71, T.st_71, T.un_71]
    refine (Rtime_ph h p D v c at_ hC).mono fun u H1 hh => ?_
    simp (config := { dsimp := false, maxSteps := 10000000 }) (disch := omega) only [go_sem, reduceIte, Nat.reduceEqDiff, reduceCtorEq, Nat.reduceAdd, Nat.reduceMul, Int.reduceToNat, Int.reduceLE, Int.reduceLT, Int.reduceEq, Int.reduceNe, Nat.reduceLeDiff, Int.reducePow, Nat.reducePow, Nat.reduceLT, Nat.reduceSub, Nat.reduceMod, Nat.reduceDiv, slot_neg, slot_pos, T.ag_3, T.ag_71, T.ag_82, T.eb_71, T.es_71, T.ez_71, T.fo_77_0, T.fo_82_2, T.gf_65, T.ib_3, T.ii_71, T.ip_3, T.s8_71, T.sl_71, T.st_71, T.un_71]
    exact hh
  generalize timeC c at_ = cc at *
  (refine CodeH.seq' (CodeH.of_vc [] hm (by kernel_rfl) ?_); simp (config := { dsimp := false, maxSteps := 10000000 }) (disch := omega) only [go_sem, reduceIte, Nat.reduceEqDiff, reduceCtorEq, Nat.reduceAdd, Nat.reduceMul, Int.reduceToNat, Int.reduceLE, Int.reduceLT, Int.reduceEq, Int.reduceNe, Nat.reduceLeDiff, Int.reducePow, Nat.reducePow, Nat.reduceLT, Nat.reduceSub, Nat.reduceMod, Nat.reduceDiv, slot_neg, slot_pos, T.ag_3, T.ag_71, T.ag_82, T.eb_71, T.es_71, T.ez_71, T.fo_77_0, T.fo_82_2, T.gf_65, T.ib_3, T.ii_71, T.ip_3, T.s8_71, T.sl_71, T.st_71, T.un_71, init_a])
  obtain ⟨hpn1, hpD1, hp1, hr1, hsm1⟩ := hC1
  have hmost := hOk1.len
  refine CodeH.seq (fun r H => Upd H1 H [] ∧ ∃ u s Du, r 5 = u ∧ OwnRow refE H u Du s ∧ (∀ d ∈ Du, H1.next ≤ d) ∧ s.Perm cc.l ∧ s.Pairwise leT) (CodeH.of_vc [] hm (by kernel_rfl) ?_) fun r H2 ⟨hU2, u, s, Du, q5, hOu, hDu, hs1, hs2⟩ => ?_
  · obtain ⟨A, st, hv⟩ := hr1.form
    simp (config := { dsimp := false, maxSteps := 10000000 }) (disch := omega) only [go_sem, reduceIte, Nat.reduceEqDiff, reduceCtorEq, Nat.reduceAdd, Nat.reduceMul, Int.reduceToNat, Int.reduceLE, Int.reduceLT, Int.reduceEq, Int.reduceNe, Nat.reduceLeDiff, Int.reducePow, Nat.reducePow, Nat.reduceLT, Nat.reduceSub, Nat.reduceMod, Nat.reduceDiv, slot_neg, slot_pos, T.ag_3, T.ag_71, T.ag_82, T.eb_71, T.es_71, T.ez_71, T.fo_77_0, T.fo_82_2, T.gf_65, T.ib_3, T.ii_71, T.ip_3, T.s8_71, T.sl_71, T.st_71, T.un_71, q0, hp1, hv]
    refine loop_intro [] hm (fun r H => Upd H1 H [] ∧ ∃ (i : Nat) (u : Value) (s : List Th) (Du : List Nat), i ≤ cc.l.length ∧ r 0 = .pointer (some ⟨p, 0, none⟩) ∧ r 5 = u ∧ r 6 = .int .i64 i ∧ OwnRow refE H u Du s ∧ (∀ d ∈ Du, H1.next ≤ d) ∧ s.Perm (cc.l.take i) ∧ s.Pairwise leT) (fun r _ => match r 6 with | .int _ i => cc.l.length - i.toNat | _ => 0) ?_ ?_
    · exact ⟨Upd.refl _ _, 0, _, [], [], by omega, by simp [upd, q0], rfl, by simp [upd], by simpa [upd] using OwnRow.nil _, by simp, by simp, by simp⟩
    · rintro r H ⟨hU, i, u, s, Du, hi, q0, q5, q6, hOu, hDu, hs1, hs2⟩
      have hrH := hr1.upd hU (by simp)
      have hpH := (hU.2 p hpn1 (by simp)).trans hp1
      by_cases hlt : i < cc.l.length
      · have hlt' : ((i : Int) < (cc.l.length : Int)) = True := eq_true (by omega)
        have hx : cc.l[i]? = some cc.l[i] := List.getElem?_eq_getElem hlt
        have w1 : IntKind.i64.wrap ((i : Int) + 1) = ((i + 1 : Nat) : Int) := by rw [i64wrap] <;> omega
        have htn := take_snoc hx
        have hputs : ∀ y ∈ s, y.put < cc.l[i].put := fun y hy => by
          obtain ⟨j, hj⟩ := List.getElem?_of_mem (hs1.subset hy)
          have hji : j < i := by have := (List.getElem?_eq_some_iff.1 hj).1; rw [List.length_take] at this; omega
          rw [List.getElem?_take_of_lt hji] at hj
          obtain ⟨hj1, hj2⟩ := List.getElem?_eq_some_iff.1 hj
          have := (List.pairwise_iff_getElem.1 hOk1.asc) j i hj1 hlt hji
          rwa [hj2] at this
        obtain ⟨q, off, vs, o, hv', hq, y0, y1, yk, yv, yg⟩ := row_th hrH.row hx
        have hlen : s.length = i := by rw [hs1.length_eq, List.length_take]; omega
        generalize cc.l[i] = x at *
        have hx1 := x.one
        have Q6 := q6
        have hpn2 : p < H.next := Nat.lt_of_lt_of_le hpn1 hU.1
        have hqn : q < H.next := by rw [hv'] at hrH; exact hrH.at_.2.1
        have n1 : (q = H.next) = False := eq_false (by omega)
        have n2 : (q = H.next + 1) = False := eq_false (by omega)
        have n3 : (q = H.next + 1 + 1) = False := eq_false (by omega)
        rcases hOu with ⟨rfl, rfl, rfl⟩ | ⟨q3, off3, vs3, rfl, hq3n, rfl, hq3, hR⟩
        · simp (config := { dsimp := false, maxSteps := 10000000 }) (disch := omega) only [go_sem, reduceIte, Nat.reduceEqDiff, reduceCtorEq, Nat.reduceAdd, Nat.reduceMul, Int.reduceToNat, Int.reduceLE, Int.reduceLT, Int.reduceEq, Int.reduceNe, Nat.reduceLeDiff, Int.reducePow, Nat.reducePow, Nat.reduceLT, Nat.reduceSub, Nat.reduceMod, Nat.reduceDiv, slot_neg, slot_pos, T.ag_3, T.ag_71, T.ag_82, T.eb_71, T.es_71, T.ez_71, T.fo_77_0, T.fo_82_2, T.gf_65, T.ib_3, T.ii_71, T.ip_3, T.s8_71, T.sl_71, T.st_71, T.un_71, q0, q5, q6, hpH, hv', hlt']
          refine loop_intro [] hm (fun r H' => H' = H ∧ r 0 = .pointer (some ⟨p, 0, none⟩) ∧ r 5 = .slice none 0 0 ∧ r 6 = .int .i64 i ∧ r 7 = .int .i64 0) (fun r _ => 0) ?_ ?_
          · exact ⟨rfl, by simp [upd, q0], by simp [upd, q5], by simp [upd, q6], by simp [upd]⟩
          · rintro r H' ⟨rfl, q0, q5, q6, q7⟩
            simp (config := { dsimp := false, maxSteps := 10000000 }) (disch := omega) only [go_sem, reduceIte, Nat.reduceEqDiff, reduceCtorEq, Nat.reduceAdd, Nat.reduceMul, Int.reduceToNat, Int.reduceLE, Int.reduceLT, Int.reduceEq, Int.reduceNe, Nat.reduceLeDiff, Int.reducePow, Nat.reducePow, Nat.reduceLT, Nat.reduceSub, Nat.reduceMod, Nat.reduceDiv, slot_neg, slot_pos, T.ag_3, T.ag_71, T.ag_82, T.eb_71, T.es_71, T.ez_71, T.fo_77_0, T.fo_82_2, T.gf_65, T.ib_3, T.ii_71, T.ip_3, T.s8_71, T.sl_71, T.st_71, T.un_71, q0, q5, q6, q7]
            refine draw_cut (fun r' H9 => ∃ b, H'.next ≤ b ∧ b < H9.next ∧ H9.get b = .live (.cells (refE.flat [x]) .own) ∧ Upd H' H9 [] ∧ r' 0 = .pointer (some ⟨p, 0, none⟩) ∧ r' 5 = .slice (some ⟨b, 0, none⟩) 1 3 ∧ r' 6 = .int .i64 i) [] (.take 1 (.take 2 (.take 3 (.take 5 (.take 6 (.take 7 (.take 8 (.take 9 (.take 10 (.take 11 (.take 14 (.take 15 (.take 16 (.alt 0 (.alt 4 (.alt 12 (.alt 13 (.alt 17 (.takeS 18 .done) .stop) .stop) .stop) (.alt 12 (.alt 4 (.alt 13 (.alt 17 (.takeS 18 .done) .stop) .stop) .stop) .stop)) (.alt 12 (.alt 0 (.alt 4 (.alt 13 (.alt 17 (.takeS 18 .done) .stop) .stop) .stop) .stop) .stop))))))))))))))) hm (by kernel_rfl) (by kernel_rfl) ?_ ?_
            · simp (config := { dsimp := false, maxSteps := 10000000 }) (disch := omega) only [go_sem, reduceIte, Nat.reduceEqDiff, reduceCtorEq, Nat.reduceAdd, Nat.reduceMul, Int.reduceToNat, Int.reduceLE, Int.reduceLT, Int.reduceEq, Int.reduceNe, Nat.reduceLeDiff, Int.reducePow, Nat.reducePow, Nat.reduceLT, Nat.reduceSub, Nat.reduceMod, Nat.reduceDiv, slot_neg, slot_pos, T.ag_3, T.ag_71, T.ag_82, T.eb_71, T.es_71, T.ez_71, T.fo_77_0, T.fo_82_2, T.gf_65, T.ib_3, T.ii_71, T.ip_3, T.s8_71, T.sl_71, T.st_71, T.un_71, q0, q5, q6, q7, hpH, hv', hlt', hq, lock_live', lock_cells, lk_own, y0, hx1.1, hx1.2, n1, n2, n3]
              refine ⟨hpn2, hqn, y1, ⟨?_, ?_⟩, ?_⟩
              all_goals exact ⟨H'.next + 1 + 1 + 1 + 1, by omega, by omega, by rw [if_neg (by omega), if_pos rfl]; rfl, (Upd.refl H' []).unmask (by show H'.next ≤ H'.next + 1 + 1 + 1 + 1 + 1; omega) (by simp), rfl⟩
            · rintro r H9 ⟨b, hb1, hb2, hb3, hU9, q0, q5, q6⟩
              simp (config := { dsimp := false, maxSteps := 10000000 }) (disch := omega) only [go_sem, reduceIte, Nat.reduceEqDiff, reduceCtorEq, Nat.reduceAdd, Nat.reduceMul, Int.reduceToNat, Int.reduceLE, Int.reduceLT, Int.reduceEq, Int.reduceNe, Nat.reduceLeDiff, Int.reducePow, Nat.reducePow, Nat.reduceLT, Nat.reduceSub, Nat.reduceMod, Nat.reduceDiv, slot_neg, slot_pos, T.ag_3, T.ag_71, T.ag_82, T.eb_71, T.es_71, T.ez_71, T.fo_77_0, T.fo_82_2, T.gf_65, T.ib_3, T.ii_71, T.ip_3, T.s8_71, T.sl_71, T.st_71, T.un_71, q0, q5, q6, w1]
              have hi0 : i = 0 := by simpa using hlen.symm
              have hnn := hU.1
              refine ⟨⟨hU.trans hU9 (by simp), i + 1, _, [x], [b], hlt, rfl, rfl, .inr ⟨b, 0, _, rfl, hb2, rfl, hb3, RowV.all _⟩, by simp; omega, ?_, by simp⟩, ?_⟩
              · rw [htn, hi0]; simp
              · rw [Q6]
                show cc.l.length - (i + 1) < cc.l.length - i
                omega
        · have hR1 := hR.1
          rw [refE_k] at hR1
          have n4 : (q3 = H.next) = False := eq_false (by omega)
          have n5 : (q3 = H.next + 1) = False := eq_false (by omega)
          have n6 : (q3 = H.next + 1 + 1) = False := eq_false (by omega)
          have n7 : (q3 = H.next + 1 + 1 + 1) = False := eq_false (by omega)
          have n8 : (q = H.next + 1 + 1 + 1) = False := eq_false (by omega)
          simp (config := { dsimp := false, maxSteps := 10000000 }) (disch := omega) only [go_sem, reduceIte, Nat.reduceEqDiff, reduceCtorEq, Nat.reduceAdd, Nat.reduceMul, Int.reduceToNat, Int.reduceLE, Int.reduceLT, Int.reduceEq, Int.reduceNe, Nat.reduceLeDiff, Int.reducePow, Nat.reducePow, Nat.reduceLT, Nat.reduceSub, Nat.reduceMod, Nat.reduceDiv, slot_neg, slot_pos, T.ag_3, T.ag_71, T.ag_82, T.eb_71, T.es_71, T.ez_71, T.fo_77_0, T.fo_82_2, T.gf_65, T.ib_3, T.ii_71, T.ip_3, T.s8_71, T.sl_71, T.st_71, T.un_71, q0, q5, q6, hpH, hv', hlt']
          refine loop_intro [] hm (fun r H' => H' = H ∧ ∃ (k : Nat), k ≤ s.length ∧ r 0 = .pointer (some ⟨p, 0, none⟩) ∧ r 5 = .slice (some ⟨q3, off3, none⟩) s.length 3 ∧ r 6 = .int .i64 i ∧ r 7 = .int .i64 k ∧ ∀ (j : Nat) (y : Th), j < k → s[j]? = some y → y.goes ≤ x.goes) (fun r _ => match r 7 with | .int _ k => s.length - k.toNat | _ => 0) ?_ ?_
          · exact ⟨rfl, 0, by omega, by simp [upd, q0], by simp [upd, q5]; rfl, by simp [upd, q6], by simp [upd], by omega⟩
          · rintro r H' ⟨rfl, k, hk, q0, q5, q6, q7, hle⟩
            have b1 : ((k : Int) ≤ (s.length : Int)) = True := eq_true (by omega)
            have b2 : ((0 : Int) ≤ (k : Int)) = True := eq_true (by omega)
            have f1 : List.take (k * 3) (List.drop off3 vs3) = refE.flat (s.take k) := by
              have := (hR.take k hk).2
              rwa [List.length_take, Nat.min_eq_left hk] at this
            have f2 : List.take ((s.length - k) * 3) (List.drop (off3 + k * 3) vs3) = refE.flat (s.drop k) := by
              have := (hR.drop k hk).2
              rwa [List.length_drop] at this
            have f3 : ((refE.flat (s.take k)).all fun x => x.oneCell') = true := flat_one _
            have f4 : ((refE.flat (s.drop k)).all fun x => x.oneCell') = true := flat_one _
            have fl1 : (refE.flat (s.take k)).length = k * 3 := by rw [flat_len, refE_k, List.length_take, Nat.min_eq_left hk]
            have f6 : k + 1 + (s.length - k) = s.length + 1 := by omega
            have f7 : List.take (k * 3) (refE.flat (s.take k)) = refE.flat (s.take k) := List.take_of_length_le (by omega)
            have f8 : List.take ((k + 1) * 3) (refE.flat (s.take k) ++ [x.key, x.val, .int .i64 x.goes]) = refE.flat (s.take k) ++ [x.key, x.val, .int .i64 x.goes] := List.take_of_length_le (by simp [fl1]; omega)
            have e1 : (off3 + k * 3 ≤ vs3.length) = True := eq_true (by omega)
            have e2 : (k * 32 ≤ 140737488355328) = True := eq_true (by omega)
            have e3 : (k ≤ 9223372036854775807) = True := eq_true (by omega)
            have e4 : (k * 3 ≤ (refE.flat (s.take k)).length) = True := eq_true (by omega)
            have e5 : ((k + 1) * 32 ≤ 140737488355328) = True := eq_true (by omega)
            have e6 : (k ≤ 9223372036854775806) = True := eq_true (by omega)
            have e7 : (off3 + k * 3 + (s.length - k) * 3 ≤ vs3.length) = True := eq_true (by omega)
            have e8 : ((k + 1) * 3 ≤ (refE.flat (s.take k) ++ [x.key, x.val, .int .i64 x.goes]).length) = True := eq_true (by simp [fl1]; omega)
            have e9 : ((s.length + 1) * 32 ≤ 140737488355328) = True := eq_true (by omega)
            have e10 : (s.length ≤ 9223372036854775806) = True := eq_true (by omega)
            have f5 : ((s.length : Int) - (k : Int)).toNat = s.length - k := by omega
            rcases Nat.lt_or_ge k s.length with hk2 | hk2
            · have c5 : ((k : Int) < (s.length : Int)) = True := eq_true (by omega)
              have wk : IntKind.i64.wrap ((k : Int) + 1) = ((k + 1 : Nat) : Int) := by rw [i64wrap] <;> omega
              have hy : s[k]? = some s[k] := List.getElem?_eq_getElem hk2
              have zg := hR.cell hy (j := 2) (by decide)
              rw [refE_k, refE_enc] at zg
              generalize s[k] = y at *
              by_cases c6 : y.goes ≤ x.goes
              · have c6' : (y.goes ≤ x.goes) = True := eq_true c6
                simp (config := { dsimp := false, maxSteps := 10000000 }) (disch := omega) only [go_sem, reduceIte, Nat.reduceEqDiff, reduceCtorEq, Nat.reduceAdd, Nat.reduceMul, Int.reduceToNat, Int.reduceLE, Int.reduceLT, Int.reduceEq, Int.reduceNe, Nat.reduceLeDiff, Int.reducePow, Nat.reducePow, Nat.reduceLT, Nat.reduceSub, Nat.reduceMod, Nat.reduceDiv, slot_neg, slot_pos, T.ag_3, T.ag_71, T.ag_82, T.eb_71, T.es_71, T.ez_71, T.fo_77_0, T.fo_82_2, T.gf_65, T.ib_3, T.ii_71, T.ip_3, T.s8_71, T.sl_71, T.st_71, T.un_71, q0, q5, q6, q7, hpH, hv', hlt', hq, hq3, yg, zg, c5, c6', wk]
                refine ⟨⟨k + 1, hk2, rfl, fun j z hj hz => ?_⟩, by omega⟩
                rcases Nat.lt_or_ge j k with h5 | h5
                · exact hle j z h5 hz
                · obtain rfl : j = k := by omega
                  rw [hy] at hz; cases hz; exact c6
              have c6' : (y.goes ≤ x.goes) = False := eq_false c6
              simp (config := { dsimp := false, maxSteps := 10000000 }) (disch := omega) only [go_sem, reduceIte, Nat.reduceEqDiff, reduceCtorEq, Nat.reduceAdd, Nat.reduceMul, Int.reduceToNat, Int.reduceLE, Int.reduceLT, Int.reduceEq, Int.reduceNe, Nat.reduceLeDiff, Int.reducePow, Nat.reducePow, Nat.reduceLT, Nat.reduceSub, Nat.reduceMod, Nat.reduceDiv, slot_neg, slot_pos, T.ag_3, T.ag_71, T.ag_82, T.eb_71, T.es_71, T.ez_71, T.fo_77_0, T.fo_82_2, T.gf_65, T.ib_3, T.ii_71, T.ip_3, T.s8_71, T.sl_71, T.st_71, T.un_71, q0, q5, q6, q7, hpH, hv', hlt', hq, hq3, yg, zg, c5, c6', wk]
              have hstop : ∀ y, (s.drop k)[0]? = some y → x.goes < y.goes := fun z hz => by
                rw [List.getElem?_drop, Nat.add_zero, hy] at hz; cases hz; omega
              refine draw_cut (fun r' H9 => ∃ b, H'.next ≤ b ∧ b < H9.next ∧ H9.get b = .live (.cells (refE.flat (s.take k) ++ [x.key, x.val, .int .i64 x.goes] ++ refE.flat (s.drop k)) .own) ∧ Upd H' H9 [] ∧ r' 0 = .pointer (some ⟨p, 0, none⟩) ∧ r' 5 = .slice (some ⟨b, 0, none⟩) (s.length + 1) 3 ∧ r' 6 = .int .i64 i) [] (.take 1 (.take 2 (.take 3 (.take 5 (.take 6 (.take 7 (.take 8 (.take 9 (.take 10 (.take 11 (.take 14 (.take 15 (.take 16 (.alt 0 (.alt 4 (.alt 12 (.alt 13 (.alt 17 (.takeS 18 .done) .stop) .stop) .stop) (.alt 12 (.alt 4 (.alt 13 (.alt 17 (.takeS 18 .done) .stop) .stop) .stop) .stop)) (.alt 12 (.alt 0 (.alt 4 (.alt 13 (.alt 17 (.takeS 18 .done) .stop) .stop) .stop) .stop) .stop))))))))))))))) hm (by kernel_rfl) (by kernel_rfl) ?_ ?_
              · simp (config := { dsimp := false, maxSteps := 10000000 }) (disch := omega) only [go_sem, reduceIte, Nat.reduceEqDiff, reduceCtorEq, Nat.reduceAdd, Nat.reduceMul, Int.reduceToNat, Int.reduceLE, Int.reduceLT, Int.reduceEq, Int.reduceNe, Nat.reduceLeDiff, Int.reducePow, Nat.reducePow, Nat.reduceLT, Nat.reduceSub, Nat.reduceMod, Nat.reduceDiv, slot_neg, slot_pos, T.ag_3, T.ag_71, T.ag_82, T.eb_71, T.es_71, T.ez_71, T.fo_77_0, T.fo_82_2, T.gf_65, T.ib_3, T.ii_71, T.ip_3, T.s8_71, T.sl_71, T.st_71, T.un_71, q0, q5, q6, q7, hpH, hv', hlt', hq, hq3, lock_live', lock_cells, lk_own, b1, b2, y0, hx1.1, hx1.2, n1, n2, n3, n4, n5, n6, n7, n8, f1, f2, f3, f4, f5, f6, f7, f8, refE_k, e1, e2, e3, e4, e5, e6, e7, e8, e9, e10]
                refine ⟨hpn2, hqn, y1, ⟨?_, ?_⟩, ?_⟩
                all_goals exact ⟨H'.next + 1 + 1 + 1 + 1, by omega, by omega, by rw [if_neg (by omega), if_pos rfl], (Upd.refl H' []).unmask (by show H'.next ≤ H'.next + 1 + 1 + 1 + 1 + 1; omega) (by simp), rfl⟩
              · rintro r H9 ⟨b, hb1, hb2, hb3, hU9, q0, q5, q6⟩
                simp (config := { dsimp := false, maxSteps := 10000000 }) (disch := omega) only [go_sem, reduceIte, Nat.reduceEqDiff, reduceCtorEq, Nat.reduceAdd, Nat.reduceMul, Int.reduceToNat, Int.reduceLE, Int.reduceLT, Int.reduceEq, Int.reduceNe, Nat.reduceLeDiff, Int.reducePow, Nat.reducePow, Nat.reduceLT, Nat.reduceSub, Nat.reduceMod, Nat.reduceDiv, slot_neg, slot_pos, T.ag_3, T.ag_71, T.ag_82, T.eb_71, T.es_71, T.ez_71, T.fo_77_0, T.fo_82_2, T.gf_65, T.ib_3, T.ii_71, T.ip_3, T.s8_71, T.sl_71, T.st_71, T.un_71, q0, q5, q6, w1]
                have hnn := hU.1
                have hlx : (s.take k ++ x :: s.drop k).length = s.length + 1 := by rw [List.length_append, List.length_cons, List.length_take, List.length_drop]; omega
                refine ⟨⟨hU.trans hU9 (by simp), i + 1, _, s.take k ++ x :: s.drop k, [b], hlt, rfl, rfl, .inr ⟨b, 0, _, rfl, hb2, by rw [hlx, refE_k], hb3, ?_⟩, by simp; omega, ?_, ins_sorted (by rw [List.take_append_drop]; exact hs2) ?_ ?_ hstop⟩, ?_⟩
                · have := RowV.all (E := refE) (s.take k ++ x :: s.drop k)
                  rwa [flat_app, flat_cons, refE_enc, ← List.append_assoc] at this
                · rw [htn]
                  exact (List.perm_middle.trans (by rw [List.take_append_drop]; exact hs1.cons x)).trans (List.perm_append_singleton x _).symm
                · intro y hy
                  obtain ⟨j, hj⟩ := List.getElem?_of_mem hy
                  have hjk : j < k := by have := (List.getElem?_eq_some_iff.1 hj).1; rw [List.length_take] at this; omega
                  rw [List.getElem?_take_of_lt hjk] at hj
                  exact ⟨hle j y hjk hj, hputs y (List.mem_of_getElem? hj)⟩
                · exact fun y hy => hputs y (List.mem_of_mem_drop hy)
                · rw [Q6]
                  show cc.l.length - (i + 1) < cc.l.length - i
                  omega
            · have c5 : ((k : Int) < (s.length : Int)) = False := eq_false (by omega)
              simp (config := { dsimp := false, maxSteps := 10000000 }) (disch := omega) only [go_sem, reduceIte, Nat.reduceEqDiff, reduceCtorEq, Nat.reduceAdd, Nat.reduceMul, Int.reduceToNat, Int.reduceLE, Int.reduceLT, Int.reduceEq, Int.reduceNe, Nat.reduceLeDiff, Int.reducePow, Nat.reducePow, Nat.reduceLT, Nat.reduceSub, Nat.reduceMod, Nat.reduceDiv, slot_neg, slot_pos, T.ag_3, T.ag_71, T.ag_82, T.eb_71, T.es_71, T.ez_71, T.fo_77_0, T.fo_82_2, T.gf_65, T.ib_3, T.ii_71, T.ip_3, T.s8_71, T.sl_71, T.st_71, T.un_71, q0, q5, q6, q7, c5]
              have hstop : ∀ y, (s.drop k)[0]? = some y → x.goes < y.goes := fun z hz => by
                rw [List.getElem?_drop, Nat.add_zero, List.getElem?_eq_none hk2] at hz; cases hz
              refine draw_cut (fun r' H9 => ∃ b, H'.next ≤ b ∧ b < H9.next ∧ H9.get b = .live (.cells (refE.flat (s.take k) ++ [x.key, x.val, .int .i64 x.goes] ++ refE.flat (s.drop k)) .own) ∧ Upd H' H9 [] ∧ r' 0 = .pointer (some ⟨p, 0, none⟩) ∧ r' 5 = .slice (some ⟨b, 0, none⟩) (s.length + 1) 3 ∧ r' 6 = .int .i64 i) [] (.take 1 (.take 2 (.take 3 (.take 5 (.take 6 (.take 7 (.take 8 (.take 9 (.take 10 (.take 11 (.take 14 (.take 15 (.take 16 (.alt 0 (.alt 4 (.alt 12 (.alt 13 (.alt 17 (.takeS 18 .done) .stop) .stop) .stop) (.alt 12 (.alt 4 (.alt 13 (.alt 17 (.takeS 18 .done) .stop) .stop) .stop) .stop)) (.alt 12 (.alt 0 (.alt 4 (.alt 13 (.alt 17 (.takeS 18 .done) .stop) .stop) .stop) .stop) .stop))))))))))))))) hm (by kernel_rfl) (by kernel_rfl) ?_ ?_
              · simp (config := { dsimp := false, maxSteps := 10000000 }) (disch := omega) only [go_sem, reduceIte, Nat.reduceEqDiff, reduceCtorEq, Nat.reduceAdd, Nat.reduceMul, Int.reduceToNat, Int.reduceLE, Int.reduceLT, Int.reduceEq, Int.reduceNe, Nat.reduceLeDiff, Int.reducePow, Nat.reducePow, Nat.reduceLT, Nat.reduceSub, Nat.reduceMod, Nat.reduceDiv, slot_neg, slot_pos, T.ag_3, T.ag_71, T.ag_82, T.eb_71, T.es_71, T.ez_71, T.fo_77_0, T.fo_82_2, T.gf_65, T.ib_3, T.ii_71, T.ip_3, T.s8_71, T.sl_71, T.st_71, T.un_71, q0, q5, q6, q7, hpH, hv', hlt', hq, hq3, lock_live', lock_cells, lk_own, b1, b2, y0, hx1.1, hx1.2, n1, n2, n3, n4, n5, n6, n7, n8, f1, f2, f3, f4, f5, f6, f7, f8, refE_k, e1, e2, e3, e4, e5, e6, e7, e8, e9, e10]
                refine ⟨hpn2, hqn, y1, ⟨?_, ?_⟩, ?_⟩
                all_goals exact ⟨H'.next + 1 + 1 + 1 + 1, by omega, by omega, by rw [if_neg (by omega), if_pos rfl], (Upd.refl H' []).unmask (by show H'.next ≤ H'.next + 1 + 1 + 1 + 1 + 1; omega) (by simp), rfl⟩
              · rintro r H9 ⟨b, hb1, hb2, hb3, hU9, q0, q5, q6⟩
                simp (config := { dsimp := false, maxSteps := 10000000 }) (disch := omega) only [go_sem, reduceIte, Nat.reduceEqDiff, reduceCtorEq, Nat.reduceAdd, Nat.reduceMul, Int.reduceToNat, Int.reduceLE, Int.reduceLT, Int.reduceEq, Int.reduceNe, Nat.reduceLeDiff, Int.reducePow, Nat.reducePow, Nat.reduceLT, Nat.reduceSub, Nat.reduceMod, Nat.reduceDiv, slot_neg, slot_pos, T.ag_3, T.ag_71, T.ag_82, T.eb_71, T.es_71, T.ez_71, T.fo_77_0, T.fo_82_2, T.gf_65, T.ib_3, T.ii_71, T.ip_3, T.s8_71, T.sl_71, T.st_71, T.un_71, q0, q5, q6, w1]
                have hnn := hU.1
                have hlx : (s.take k ++ x :: s.drop k).length = s.length + 1 := by rw [List.length_append, List.length_cons, List.length_take, List.length_drop]; omega
                refine ⟨⟨hU.trans hU9 (by simp), i + 1, _, s.take k ++ x :: s.drop k, [b], hlt, rfl, rfl, .inr ⟨b, 0, _, rfl, hb2, by rw [hlx, refE_k], hb3, ?_⟩, by simp; omega, ?_, ins_sorted (by rw [List.take_append_drop]; exact hs2) ?_ ?_ hstop⟩, ?_⟩
                · have := RowV.all (E := refE) (s.take k ++ x :: s.drop k)
                  rwa [flat_app, flat_cons, refE_enc, ← List.append_assoc] at this
                · rw [htn]
                  exact (List.perm_middle.trans (by rw [List.take_append_drop]; exact hs1.cons x)).trans (List.perm_append_singleton x _).symm
                · intro y hy
                  obtain ⟨j, hj⟩ := List.getElem?_of_mem hy
                  have hjk : j < k := by have := (List.getElem?_eq_some_iff.1 hj).1; rw [List.length_take] at this; omega
                  rw [List.getElem?_take_of_lt hjk] at hj
                  exact ⟨hle j y hjk hj, hputs y (List.mem_of_getElem? hj)⟩
                · exact fun y hy => hputs y (List.mem_of_mem_drop hy)
                · rw [Q6]
                  show cc.l.length - (i + 1) < cc.l.length - i
                  omega
      · have hlt' : ((i : Int) < (cc.l.length : Int)) = False := eq_false (by omega)
        obtain rfl : i = cc.l.length := by omega
        rw [List.take_length] at hs1
        simp (config := { dsimp := false, maxSteps := 10000000 }) (disch := omega) only [go_sem, reduceIte, Nat.reduceEqDiff, reduceCtorEq, Nat.reduceAdd, Nat.reduceMul, Int.reduceToNat, Int.reduceLE, Int.reduceLT, Int.reduceEq, Int.reduceNe, Nat.reduceLeDiff, Int.reducePow, Nat.reducePow, Nat.reduceLT, Nat.reduceSub, Nat.reduceMod, Nat.reduceDiv, slot_neg, slot_pos, T.ag_3, T.ag_71, T.ag_82, T.eb_71, T.es_71, T.ez_71, T.fo_77_0, T.fo_82_2, T.gf_65, T.ib_3, T.ii_71, T.ip_3, T.s8_71, T.sl_71, T.st_71, T.un_71, q0, q5, q6, hpH, hv, hlt']
        exact ⟨hU, u, s, ⟨Du, rfl, hOu, hDu, hs1, hs2⟩⟩
  · have ho := hOu.row.one
    have hn := hU1.1
    (refine CodeH.of_vc [] hm (by kernel_rfl) ?_; simp (config := { dsimp := false, maxSteps := 10000000 }) (disch := omega) only [go_sem, reduceIte, Nat.reduceEqDiff, reduceCtorEq, Nat.reduceAdd, Nat.reduceMul, Int.reduceToNat, Int.reduceLE, Int.reduceLT, Int.reduceEq, Int.reduceNe, Nat.reduceLeDiff, Int.reducePow, Nat.reducePow, Nat.reduceLT, Nat.reduceSub, Nat.reduceMod, Nat.reduceDiv, slot_neg, slot_pos, T.ag_3, T.ag_71, T.ag_82, T.eb_71, T.es_71, T.ez_71, T.fo_77_0, T.fo_82_2, T.gf_65, T.ib_3, T.ii_71, T.ip_3, T.s8_71, T.sl_71, T.st_71, T.un_71, init_a, q5, ho.1, ho.2])
    refine ⟨⟨D1, v1, ?_, hD1, hU1.trans hU2 (by simp)⟩, s, Du, hOu, fun d hd => by have := hDu d hd; omega, hs1, hs2⟩
    exact RfR.upd ⟨hpn1, hpD1, hp1, hr1, hsm1⟩ hU2 (by simp) (by simp)
end Ph
