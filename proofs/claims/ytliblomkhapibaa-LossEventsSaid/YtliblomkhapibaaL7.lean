import Derived.Test.YtliblomkhapibaaL6
set_option maxRecDepth 100000
set_option maxHeartbeats 100000
set_option linter.unusedSimpArgs false
set_option linter.unusedVariables false
namespace Ph
open Go Go.Proofs
attribute [local irreducible] Value.cells
attribute [local go_sem ↓] y_move y_assign y_pick y_nil y_bin y_un y_fa y_field y_ext y_ia y_ix y_slice y_build y_mf y_load y_len y_min y_max y_conv y_bs y_mk y_alloc y_box y_store y_clear y_app y_callf y_callt s_move s_assign s_pick s_nil s_bin s_un s_fa s_field s_ext s_ia s_ix s_slice s_conv s_build s_bs s_mf s_alloc s_box s_load s_store s_len s_clear s_min s_max s_app s_call q_call q_move q_assign q_pick q_nil q_bin q_un q_fa q_field q_ext q_ia q_ix q_slice q_conv q_build q_mf q_load q_len q_min q_max l_nil l_move l_assign l_pick l_nilc l_bin l_un l_fa l_field l_ext l_ia l_ix l_slice l_conv l_build l_mf l_load l_len l_min l_max l_call put_eq putN_eq o_nil o_plain o_gate v_nil v_plain v_gate vc_skip vc_region vc_seq vc_cond vc_block vc_loop vc_rf vc_exit vc_ret blk_normal blk_ret blk_exit on_normal on_ret on_exit vc_drawn draw_q s_mk l_bs l_mk l_alloc l_box l_store l_app l_clear pl_done pl_takeS pl_take pl_alt pl_stop one_plain one_gate
attribute [local go_sem] clear_nil clear_sl onAgg_a onTuple_t onFn_f onFn_y onFunc_f c_int c_nil c_sl c_str sl_sl sl_nil sl_str ix_str ix_agg n_nil n_sl n_str app_eq k_nil k_sl len_sl len_str upd_some upd_none ev_tmp ev_const ev_func rd_some gdst_eq otmp_t otmp_c get_put get_alloc next_put next_alloc get_app next_app init_a resV1 resV2 onPtr_ptr onBool_b onInt_i onSlice_s onSome_s onCells_c lett_eq gate_tt gate_tf gate_ff gate_ft gate_dt gate_df also_eq bin un minmax io_none io_some bo_none bo_some partOf List.getElem?_cons_zero List.getElem?_cons_succ List.getElem?_toArray Option.map_some Option.map_none Option.bind_some ne_eq not_true_eq_false not_false_eq_true false_implies true_implies and_true true_and and_self Bool.false_eq_true Nat.zero_add Nat.add_zero List.size_toArray List.length_cons List.length_nil List.map_toArray List.map_cons List.map_nil Array.getD_eq_getD_getElem? Option.getD_some Bool.not_true Bool.not_false Bool.not_eq_true Option.isNone_some Option.isNone_none List.append_toArray List.append_nil List.nil_append List.cons_append decide_true decide_false in_nil in_cons Bool.and_false Bool.and_true Bool.or_false Bool.true_or Bool.false_or get_mask next_mask get_unmask next_unmask ac_move ac_assign ac_pick ac_nil ac_bin ac_un ac_fa ac_field ac_ext ac_ia ac_ix ac_slice ac_build ac_mf ac_call ac_load ac_conv accP_p accS_s accS_n accS_i accS_t fixed_ro fixed_lock fixed_own get_ro next_ro lock_live' lock_cells List.mem_cons List.not_mem_nil or_false false_or or_true true_or and_false false_and IntKind.bits Int.natCast_zero Int.natCast_one size_str data_str list_str mk_str ext_str app_str bytes_str w_byte w_byteu Int.toNat_natCast Int.toNat_zero Int.toNat_one Nat.sub_zero ge_iff_le gt_iff_lt Nat.le_refl Int.le_refl List.drop_zero Int.ofNat_eq_natCast Int.natCast_nonneg Int.sub_zero oc_int oc_bool oc_str oc_ptr oc_sl oc_map oc_func List.set_cons_zero List.set_cons_succ Nat.mul_one List.all_cons List.all_nil Bool.and_self res_nil res_tmp res_cell tup_one tup_two tup_nil fill_nil repl_zero cells_agg List.append_eq List.toList_toArray Nat.zero_mul Nat.one_mul repl_one repl_two onSome_build fill_cons onSome_lit splice_eq cells_int cells_bool cells_str cells_ptr cells_sl cells_map cells_func loadK_n loadK_s load_k storeK_n storeK_s store_k all_arr List.take_zero List.take_succ_cons List.drop_succ_cons List.take_nil List.drop_nil lk_own lk_ro lk_lock lk_lk fixed_lk gate_nt gate_nf gate3_b gate3_u undef Bool.true_and Bool.false_and nx_l nx_r nx_lt put_put resV0
/-! sample, grow, check. -/
theorem StR.put {h : Heap} {p : Nat} {D : List Nat} {wv : Value} {s s' : St} (hpn : p < h.next) (hpD : p ∉ D) (hO : OwnRow pkE h wv D s.waits) (hw : s'.waits = s.waits) : MP h p D s' (h.put p (.live (.cells (stC wv s') .own))) :=
  MP.put hpn (Upd.refl _ _) (hw ▸ hO) hpD fun d hd => .inl hd
def sampleS (s : St) (trip delay : Int) : St :=
  if s.had then
    let least := min s.least trip
    let t := if trip ≥ least + delay then trip - delay else trip
    { s with last := trip, least := least, vary := (3 * s.vary + max (s.smooth - t) (t - s.smooth)) / 4, smooth := (7 * s.smooth + t) / 8 }
  else { s with last := trip, had := true, least := trip, smooth := trip, vary := trip / 2 }
theorem mx_le {a b c : Int} (h1 : a ≤ c) (h2 : b ≤ c) : max a b ≤ c := by omega
theorem sample_w {A B t : Int} (hA : 0 ≤ A ∧ A ≤ 1099511627776) (hB : 0 ≤ B ∧ B ≤ 1099511627776) (ht : 0 ≤ t ∧ t ≤ 1099511627776) :
    IntKind.i64.wrap (A - t) = A - t ∧ IntKind.i64.wrap (t - A) = t - A ∧ IntKind.i64.wrap (3 * B) = 3 * B ∧ IntKind.i64.wrap (3 * B + max (A - t) (t - A)) = 3 * B + max (A - t) (t - A) ∧
    IntKind.i64.wrap ((3 * B + max (A - t) (t - A)).tdiv 4) = (3 * B + max (A - t) (t - A)) / 4 ∧ IntKind.i64.wrap (7 * A) = 7 * A ∧ IntKind.i64.wrap (7 * A + t) = 7 * A + t ∧ IntKind.i64.wrap ((7 * A + t).tdiv 8) = (7 * A + t) / 8 := by
  have m1 : 0 ≤ max (A - t) (t - A) := by omega
  have m2 : max (A - t) (t - A) ≤ 1099511627776 := mx_le (by omega) (by omega)
  have e1 := i64wrap (x := A - t) (by omega) (by omega)
  have e2 := i64wrap (x := t - A) (by omega) (by omega)
  generalize max (A - t) (t - A) = M at *
  refine ⟨e1, e2, i64wrap (by omega) (by omega), i64wrap (by omega) (by omega), ?_, i64wrap (by omega) (by omega), i64wrap (by omega) (by omega), ?_⟩
  · rw [tdiv_pos (by omega)]; exact i64wrap (by omega) (by omega)
  · rw [tdiv_pos (by omega)]; exact i64wrap (by omega) (by omega)
theorem sample_ph (h : Heap) (p : Nat) (D : List Nat) (s : St) (trip delay : Int) (hS : StR h p D s) (hs : Ok s) (ht : 0 ≤ trip ∧ trip ≤ 1099511627776) (hd : 0 ≤ delay ∧ delay ≤ 1099511627776) :
    @CallsH Try.prog 35 #[.pointer (some ⟨p, 0, none⟩), .int .i64 trip, .int .i64 delay] h ⟨fun u H => u = .tuple #[] ∧ MP h p D (sampleS s trip delay) H⟩ := by
  obtain ⟨hpn, hpD, wv, hp, hO⟩ := hS
  have hw1 := hO.row.one
  have b1 := hs.smooth
  have b2 := hs.vary
  have b3 := hs.least
  cases hh : s.had with
  | false =>
    have w : IntKind.i64.wrap (trip.tdiv 2) = trip / 2 := by rw [tdiv_pos ht.1, i64wrap] <;> omega
    (refine calls_of_vc [] hm Try.func35 rfl (ts := []) rfl (by kernel_rfl) (by simp) ?_; simp (config := { dsimp := false }) only [go_sem, reduceIte, Nat.reduceEqDiff, reduceCtorEq, Nat.reduceAdd, Nat.reduceMul, Int.reduceToNat, Int.reduceLE, Int.reduceLT, Int.reduceEq, Int.reduceNe, Nat.reduceLeDiff, Int.reducePow, Nat.reducePow, Nat.reduceLT, Nat.reduceSub, Nat.reduceMod, Nat.reduceDiv, T.ag_3, T.ag_4, T.fo_63_3, T.fo_63_4, T.fo_63_5, T.fo_63_6, T.fo_63_7, T.ib_3, T.ip_3, init_a, hp, stC, hh, w])
    refine ?_
    have := StR.put (s' := sampleS s trip delay) hpn hpD hO (by simp [sampleS, hh])
    simpa [sampleS, stC, hh] using this
  | true =>
    have hm1 : 0 ≤ min s.least trip := by omega
    have w0 : IntKind.i64.wrap (min s.least trip + delay) = min s.least trip + delay := i64wrap (by omega) (by omega)
    have key : ∀ t : Int, 0 ≤ t ∧ t ≤ 1099511627776 → sampleS s trip delay = { s with last := trip, least := min s.least trip, vary := (3 * s.vary + max (s.smooth - t) (t - s.smooth)) / 4, smooth := (7 * s.smooth + t) / 8 } →
        MP h p D (sampleS s trip delay) (h.put p (.live (.cells (stC wv { s with last := trip, least := min s.least trip, vary := (3 * s.vary + max (s.smooth - t) (t - s.smooth)) / 4, smooth := (7 * s.smooth + t) / 8 }) .own))) := fun t _ e => by
      rw [e]; exact StR.put hpn hpD hO rfl
    have w1 : IntKind.i64.wrap (trip - delay) = trip - delay := i64wrap (by omega) (by omega)
    have fin1 := fun hb => key (trip - delay) hb
    have fin2 := key trip ht
    (refine calls_of_codeR (rs := []) Try.func35 rfl rfl (by simp) ?_)
    (refine CodeH.seq' (CodeH.of_vc [] hm (by kernel_rfl) ?_); simp (config := { dsimp := false }) only [go_sem, reduceIte, Nat.reduceEqDiff, reduceCtorEq, Nat.reduceAdd, Nat.reduceMul, Int.reduceToNat, Int.reduceLE, Int.reduceLT, Int.reduceEq, Int.reduceNe, Nat.reduceLeDiff, Int.reducePow, Nat.reducePow, Nat.reduceLT, Nat.reduceSub, Nat.reduceMod, Nat.reduceDiv, T.ag_3, T.ag_4, T.fo_63_3, T.fo_63_4, T.fo_63_5, T.fo_63_6, T.fo_63_7, T.ib_3, T.ip_3, init_a, hp, stC])
    (refine CodeH.seq' (CodeH.of_vc [] hm (by kernel_rfl) ?_); simp (config := { dsimp := false }) only [go_sem, reduceIte, Nat.reduceEqDiff, reduceCtorEq, Nat.reduceAdd, Nat.reduceMul, Int.reduceToNat, Int.reduceLE, Int.reduceLT, Int.reduceEq, Int.reduceNe, Nat.reduceLeDiff, Int.reducePow, Nat.reducePow, Nat.reduceLT, Nat.reduceSub, Nat.reduceMod, Nat.reduceDiv, T.ag_3, T.ag_4, T.fo_63_3, T.fo_63_4, T.fo_63_5, T.fo_63_6, T.fo_63_7, T.ib_3, T.ip_3, init_a, hp, stC, hh])
    (refine CodeH.seq' (CodeH.of_vc [] hm (by kernel_rfl) ?_); simp (config := { dsimp := false }) only [go_sem, reduceIte, Nat.reduceEqDiff, reduceCtorEq, Nat.reduceAdd, Nat.reduceMul, Int.reduceToNat, Int.reduceLE, Int.reduceLT, Int.reduceEq, Int.reduceNe, Nat.reduceLeDiff, Int.reducePow, Nat.reducePow, Nat.reduceLT, Nat.reduceSub, Nat.reduceMod, Nat.reduceDiv, T.ag_3, T.ag_4, T.fo_63_3, T.fo_63_4, T.fo_63_5, T.fo_63_6, T.fo_63_7, T.ib_3, T.ip_3, init_a, hp, stC, hh, minl])
    by_cases hc : min s.least trip + delay ≤ trip
    · have hfin := fin1 (by omega) (by simp [sampleS, hh, hc])
      obtain ⟨w2, w3, w4, w5, w6, w7, w8, w9⟩ := sample_w b1 b2 (show 0 ≤ trip - delay ∧ trip - delay ≤ 1099511627776 by omega)
      (refine CodeH.seq' (CodeH.of_vc [] hm (by kernel_rfl) ?_); simp (config := { dsimp := false }) only [go_sem, reduceIte, Nat.reduceEqDiff, reduceCtorEq, Nat.reduceAdd, Nat.reduceMul, Int.reduceToNat, Int.reduceLE, Int.reduceLT, Int.reduceEq, Int.reduceNe, Nat.reduceLeDiff, Int.reducePow, Nat.reducePow, Nat.reduceLT, Nat.reduceSub, Nat.reduceMod, Nat.reduceDiv, T.ag_3, T.ag_4, T.fo_63_3, T.fo_63_4, T.fo_63_5, T.fo_63_6, T.fo_63_7, T.ib_3, T.ip_3, init_a, hp, stC, w0, w1, hc])
      (refine CodeH.seq' (CodeH.of_vc [] hm (by kernel_rfl) ?_); simp (config := { dsimp := false }) only [go_sem, reduceIte, Nat.reduceEqDiff, reduceCtorEq, Nat.reduceAdd, Nat.reduceMul, Int.reduceToNat, Int.reduceLE, Int.reduceLT, Int.reduceEq, Int.reduceNe, Nat.reduceLeDiff, Int.reducePow, Nat.reducePow, Nat.reduceLT, Nat.reduceSub, Nat.reduceMod, Nat.reduceDiv, T.ag_3, T.ag_4, T.fo_63_3, T.fo_63_4, T.fo_63_5, T.fo_63_6, T.fo_63_7, T.ib_3, T.ip_3, init_a, hp, stC])
      refine draw_plan0 (.takeS 0 (.takeS 1 (.takeS 2 (.takeS 3 (.takeS 4 (.takeS 5 (.takeS 6 (.takeS 7 (.takeS 8 (.takeS 9 (.takeS 10 (.takeS 11 (.takeS 12 (.takeS 13 (.takeS 14 (.takeS 15 (.takeS 16 (.takeS 17 (.takeS 18 (.takeS 19 (.takeS 20 (.takeS 21 (.takeS 22 (.alt 23 .done .stop)))))))))))))))))))))))) hm (by kernel_rfl) (by kernel_rfl) ?_
      simp (config := { dsimp := false }) only [go_sem, reduceIte, Nat.reduceEqDiff, reduceCtorEq, Nat.reduceAdd, Nat.reduceMul, Int.reduceToNat, Int.reduceLE, Int.reduceLT, Int.reduceEq, Int.reduceNe, Nat.reduceLeDiff, Int.reducePow, Nat.reducePow, Nat.reduceLT, Nat.reduceSub, Nat.reduceMod, Nat.reduceDiv, T.ag_3, T.ag_4, T.fo_63_3, T.fo_63_4, T.fo_63_5, T.fo_63_6, T.fo_63_7, T.ib_3, T.ip_3, hp, stC, hh, maxl, w2, w3, w4, w5, w6]
      (refine CodeH.of_vc [] hm (by kernel_rfl) ?_; simp (config := { dsimp := false }) only [go_sem, reduceIte, Nat.reduceEqDiff, reduceCtorEq, Nat.reduceAdd, Nat.reduceMul, Int.reduceToNat, Int.reduceLE, Int.reduceLT, Int.reduceEq, Int.reduceNe, Nat.reduceLeDiff, Int.reducePow, Nat.reducePow, Nat.reduceLT, Nat.reduceSub, Nat.reduceMod, Nat.reduceDiv, T.ag_3, T.ag_4, T.fo_63_3, T.fo_63_4, T.fo_63_5, T.fo_63_6, T.fo_63_7, T.ib_3, T.ip_3, init_a, hp, stC, hh, w7, w8, w9])
      simpa [stC, hh] using hfin
    · have hfin := fin2 (by simp [sampleS, hh, hc])
      obtain ⟨w2, w3, w4, w5, w6, w7, w8, w9⟩ := sample_w b1 b2 ht
      (refine CodeH.seq' (CodeH.of_vc [] hm (by kernel_rfl) ?_); simp (config := { dsimp := false }) only [go_sem, reduceIte, Nat.reduceEqDiff, reduceCtorEq, Nat.reduceAdd, Nat.reduceMul, Int.reduceToNat, Int.reduceLE, Int.reduceLT, Int.reduceEq, Int.reduceNe, Nat.reduceLeDiff, Int.reducePow, Nat.reducePow, Nat.reduceLT, Nat.reduceSub, Nat.reduceMod, Nat.reduceDiv, T.ag_3, T.ag_4, T.fo_63_3, T.fo_63_4, T.fo_63_5, T.fo_63_6, T.fo_63_7, T.ib_3, T.ip_3, init_a, hp, stC, w0, w1, hc])
      (refine CodeH.seq' (CodeH.of_vc [] hm (by kernel_rfl) ?_); simp (config := { dsimp := false }) only [go_sem, reduceIte, Nat.reduceEqDiff, reduceCtorEq, Nat.reduceAdd, Nat.reduceMul, Int.reduceToNat, Int.reduceLE, Int.reduceLT, Int.reduceEq, Int.reduceNe, Nat.reduceLeDiff, Int.reducePow, Nat.reducePow, Nat.reduceLT, Nat.reduceSub, Nat.reduceMod, Nat.reduceDiv, T.ag_3, T.ag_4, T.fo_63_3, T.fo_63_4, T.fo_63_5, T.fo_63_6, T.fo_63_7, T.ib_3, T.ip_3, init_a, hp, stC])
      refine draw_plan0 (.takeS 0 (.takeS 1 (.takeS 2 (.takeS 3 (.takeS 4 (.takeS 5 (.takeS 6 (.takeS 7 (.takeS 8 (.takeS 9 (.takeS 10 (.takeS 11 (.takeS 12 (.takeS 13 (.takeS 14 (.takeS 15 (.takeS 16 (.takeS 17 (.takeS 18 (.takeS 19 (.takeS 20 (.takeS 21 (.takeS 22 (.alt 23 .done .stop)))))))))))))))))))))))) hm (by kernel_rfl) (by kernel_rfl) ?_
      simp (config := { dsimp := false }) only [go_sem, reduceIte, Nat.reduceEqDiff, reduceCtorEq, Nat.reduceAdd, Nat.reduceMul, Int.reduceToNat, Int.reduceLE, Int.reduceLT, Int.reduceEq, Int.reduceNe, Nat.reduceLeDiff, Int.reducePow, Nat.reducePow, Nat.reduceLT, Nat.reduceSub, Nat.reduceMod, Nat.reduceDiv, T.ag_3, T.ag_4, T.fo_63_3, T.fo_63_4, T.fo_63_5, T.fo_63_6, T.fo_63_7, T.ib_3, T.ip_3, hp, stC, hh, maxl, w2, w3, w4, w5, w6]
      (refine CodeH.of_vc [] hm (by kernel_rfl) ?_; simp (config := { dsimp := false }) only [go_sem, reduceIte, Nat.reduceEqDiff, reduceCtorEq, Nat.reduceAdd, Nat.reduceMul, Int.reduceToNat, Int.reduceLE, Int.reduceLT, Int.reduceEq, Int.reduceNe, Nat.reduceLeDiff, Int.reducePow, Nat.reducePow, Nat.reduceLT, Nat.reduceSub, Nat.reduceMod, Nat.reduceDiv, T.ag_3, T.ag_4, T.fo_63_3, T.fo_63_4, T.fo_63_5, T.fo_63_6, T.fo_63_7, T.ib_3, T.ip_3, init_a, hp, stC, hh, w7, w8, w9])
      simpa [stC, hh] using hfin
end Ph
