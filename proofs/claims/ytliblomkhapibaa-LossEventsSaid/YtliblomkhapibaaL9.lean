import Derived.Test.YtliblomkhapibaaL8
set_option maxRecDepth 100000
set_option maxHeartbeats 1000000
set_option linter.unusedSimpArgs false
set_option linter.unusedVariables false
namespace Ph
open Go Go.Proofs
attribute [local irreducible] Value.cells
attribute [local go_sem ↓] y_move y_assign y_pick y_nil y_bin y_un y_fa y_field y_ext y_ia y_ix y_slice y_build y_mf y_load y_len y_min y_max y_conv y_bs y_mk y_alloc y_box y_store y_clear y_app y_callf y_callt s_move s_assign s_pick s_nil s_bin s_un s_fa s_field s_ext s_ia s_ix s_slice s_conv s_build s_bs s_mf s_alloc s_box s_load s_store s_len s_clear s_min s_max s_app s_call q_call q_move q_assign q_pick q_nil q_bin q_un q_fa q_field q_ext q_ia q_ix q_slice q_conv q_build q_mf q_load q_len q_min q_max l_nil l_move l_assign l_pick l_nilc l_bin l_un l_fa l_field l_ext l_ia l_ix l_slice l_conv l_build l_mf l_load l_len l_min l_max l_call put_eq putN_eq o_nil o_plain o_gate v_nil v_plain v_gate vc_skip vc_region vc_seq vc_cond vc_block vc_loop vc_rf vc_exit vc_ret blk_normal blk_ret blk_exit on_normal on_ret on_exit vc_drawn draw_q s_mk l_bs l_mk l_alloc l_box l_store l_app l_clear pl_done pl_takeS pl_take pl_alt pl_stop one_plain one_gate
attribute [local go_sem] clear_nil clear_sl onAgg_a onTuple_t onFn_f onFn_y onFunc_f c_int c_nil c_sl c_str sl_sl sl_nil sl_str ix_str ix_agg n_nil n_sl n_str app_eq k_nil k_sl len_sl len_str upd_some upd_none ev_tmp ev_const ev_func rd_some gdst_eq otmp_t otmp_c get_put get_alloc next_put next_alloc get_app next_app init_a resV1 resV2 onPtr_ptr onBool_b onInt_i onSlice_s onSome_s onCells_c lett_eq gate_tt gate_tf gate_ff gate_ft gate_dt gate_df also_eq bin un minmax io_none io_some bo_none bo_some partOf List.getElem?_cons_zero List.getElem?_cons_succ List.getElem?_toArray Option.map_some Option.map_none Option.bind_some ne_eq not_true_eq_false not_false_eq_true false_implies true_implies and_true true_and and_self Bool.false_eq_true Nat.zero_add Nat.add_zero List.size_toArray List.length_cons List.length_nil List.map_toArray List.map_cons List.map_nil Array.getD_eq_getD_getElem? Option.getD_some Bool.not_true Bool.not_false Bool.not_eq_true Option.isNone_some Option.isNone_none List.append_toArray List.append_nil List.nil_append List.cons_append decide_true decide_false in_nil in_cons Bool.and_false Bool.and_true Bool.or_false Bool.true_or Bool.false_or get_mask next_mask get_unmask next_unmask ac_move ac_assign ac_pick ac_nil ac_bin ac_un ac_fa ac_field ac_ext ac_ia ac_ix ac_slice ac_build ac_mf ac_call ac_load ac_conv accP_p accS_s accS_n accS_i accS_t fixed_ro fixed_lock fixed_own get_ro next_ro lock_live' lock_cells List.mem_cons List.not_mem_nil or_false false_or or_true true_or and_false false_and IntKind.bits Int.natCast_zero Int.natCast_one size_str data_str list_str mk_str ext_str app_str bytes_str w_byte w_byteu Int.toNat_natCast Int.toNat_zero Int.toNat_one Nat.sub_zero ge_iff_le gt_iff_lt Nat.le_refl Int.le_refl List.drop_zero Int.ofNat_eq_natCast Int.natCast_nonneg Int.sub_zero oc_int oc_bool oc_str oc_ptr oc_sl oc_map oc_func List.set_cons_zero List.set_cons_succ Nat.mul_one List.all_cons List.all_nil Bool.and_self res_nil res_tmp res_cell tup_one tup_two tup_nil fill_nil repl_zero cells_agg List.append_eq List.toList_toArray Nat.zero_mul Nat.one_mul repl_one repl_two onSome_build fill_cons onSome_lit splice_eq cells_int cells_bool cells_str cells_ptr cells_sl cells_map cells_func loadK_n loadK_s load_k storeK_n storeK_s store_k all_arr List.take_zero List.take_succ_cons List.drop_succ_cons List.take_nil List.drop_nil lk_own lk_ro lk_lock lk_lk fixed_lk gate_nt gate_nf gate3_b gate3_u undef Bool.true_and Bool.false_and nx_l nx_r nx_lt put_put resV0
/-- slices.Backward: its loop -/
theorem BackPk_ph1 (h : Heap) (id b : Nat) (v : Value) (l : List Pk) (J : Nat → Heap → Prop) (Jx : Heap → Prop) (hl : l.length < 9223372036854775807) (h0 : J 0 h)
    (hJ : ∀ i H, J i H → ∃ o, H.get b = .live (.cells [v] o) ∧ RowIn pkE H v l)
    (hY : ∀ (i : Nat) (x : Pk) (H : Heap), i < l.length → l[l.length - 1 - i]? = some x → J i H → @YieldH Try.prog id #[.int .i64 (l.length - 1 - i : Nat), .agg (pkE.enc x).toArray] H ⟨fun u H' => (u = .bool true ∧ J (i + 1) H') ∨ (u = .bool false ∧ Jx H')⟩) :
    @CallsH Try.prog 53 #[.func (.yield id) #[] #[], .pointer (some ⟨b, 0, none⟩)] h ⟨fun u H => J l.length H ∨ Jx H⟩ := by
  obtain ⟨o, hb, hr⟩ := hJ 0 h h0
  obtain ⟨A, st, hv⟩ := hr.form
  have w0 : IntKind.i64.wrap ((l.length : Int) - 1) = (l.length : Int) - 1 := i64wrap (by omega) (by omega)
  (refine calls_of_vc [] hm Try.func53 rfl (ts := []) rfl (by kernel_rfl) (by simp) ?_; simp (config := { dsimp := false }) only [go_sem, reduceIte, Nat.reduceEqDiff, reduceCtorEq, Nat.reduceAdd, Nat.reduceMul, Int.reduceToNat, Int.reduceLE, Int.reduceLT, Int.reduceEq, Int.reduceNe, Nat.reduceLeDiff, Int.reducePow, Nat.reducePow, Nat.reduceLT, Nat.reduceSub, Nat.reduceMod, Nat.reduceDiv, T.ag_61, T.ag_66, T.es_61, T.ib_3, T.ii_61, T.ip_3, T.s8_61, T.sl_61, T.st_61, T.un_61, init_a, hb, hv, w0])
  refine loop_intro [] hm (fun r H => ∃ i : Nat, i ≤ l.length ∧ J i H ∧ r 0 = .func (.yield id) #[] #[] ∧ r 1 = .pointer (some ⟨b, 0, none⟩) ∧ r 3 = .int .i64 ((l.length : Int) - 1 - i)) (fun r _ => match r 3 with | .int _ i => (i + 1).toNat | _ => 0) ?_ ?_
  · exact ⟨0, by omega, h0, by simp [upd, initR], by simp [upd, initR], by simp [upd]⟩
  · rintro r H ⟨i, hi, hJi, q0, q1, q3⟩
    obtain ⟨o, hb, hr⟩ := hJ i H hJi
    by_cases hlt : i < l.length
    · have hlt' : (0 ≤ (l.length : Int) - 1 - i) = True := eq_true (by omega)
      have hx : l[l.length - 1 - i]? = some l[l.length - 1 - i] := List.getElem?_eq_getElem _
      rcases hr with ⟨_, hnil⟩ | ⟨q, off, vs, o2, hv', hq, hR⟩
      · rw [hnil] at hlt; simp at hlt
      · have ha := hR.at hx
        have e1 : (l.length : Int) - 1 - i = ((l.length - 1 - i : Nat) : Int) := by omega
        have h1' : List.take 4 (List.drop (off + (l.length - 1 - i) * 4) vs) = pkE.enc l[l.length - 1 - i] := ha.1
        have h2' : off + (l.length - 1 - i) * 4 + 4 ≤ vs.length := ha.2
        have hcall := hY i l[l.length - 1 - i] H hlt hx hJi
        rw [e1] at q3 hlt'
        have hb2 : (((l.length - 1 - i : Nat) : Int) < (l.length : Int)) = True := eq_true (by omega)
        have w1 : IntKind.i64.wrap (((l.length - 1 - i : Nat) : Int) - 1) = ((l.length - 1 - i : Nat) : Int) - 1 := i64wrap (by omega) (by omega)
        clear ha
        generalize l[l.length - 1 - i] = x at hx h1' hcall
        rw [hv'] at hb
        generalize hn : l.length - 1 - i = n at *
        simp (config := { dsimp := false }) only [go_sem, reduceIte, Nat.reduceEqDiff, reduceCtorEq, Nat.reduceAdd, Nat.reduceMul, Int.reduceToNat, Int.reduceLE, Int.reduceLT, Int.reduceEq, Int.reduceNe, Nat.reduceLeDiff, Int.reducePow, Nat.reducePow, Nat.reduceLT, Nat.reduceSub, Nat.reduceMod, Nat.reduceDiv, T.ag_61, T.ag_66, T.es_61, T.ib_3, T.ii_61, T.ip_3, T.s8_61, T.sl_61, T.st_61, T.un_61, q0, q1, q3, hb, hq, h1', hlt', hb2]
        refine ⟨rfl, h2', hcall.mono fun u H' hu => ?_⟩
        rcases hu with ⟨rfl, hJ'⟩ | ⟨rfl, hX⟩
        · simp (config := { dsimp := false }) only [go_sem, reduceIte, Nat.reduceEqDiff, reduceCtorEq, Nat.reduceAdd, Nat.reduceMul, Int.reduceToNat, Int.reduceLE, Int.reduceLT, Int.reduceEq, Int.reduceNe, Nat.reduceLeDiff, Int.reducePow, Nat.reducePow, Nat.reduceLT, Nat.reduceSub, Nat.reduceMod, Nat.reduceDiv, T.ag_61, T.ag_66, T.es_61, T.ib_3, T.ii_61, T.ip_3, T.s8_61, T.sl_61, T.st_61, T.un_61, q0, q1, q3, w1]
          have e3 : ((n : Int) - 1) = (l.length : Int) - 1 - ((i + 1 : Nat) : Int) := by omega
          exact ⟨⟨i + 1, hlt, hJ', by rw [e3]⟩, by omega⟩
        · simp (config := { dsimp := false }) only [go_sem, reduceIte, Nat.reduceEqDiff, reduceCtorEq, Nat.reduceAdd, Nat.reduceMul, Int.reduceToNat, Int.reduceLE, Int.reduceLT, Int.reduceEq, Int.reduceNe, Nat.reduceLeDiff, Int.reducePow, Nat.reducePow, Nat.reduceLT, Nat.reduceSub, Nat.reduceMod, Nat.reduceDiv, T.ag_61, T.ag_66, T.es_61, T.ib_3, T.ii_61, T.ip_3, T.s8_61, T.sl_61, T.st_61, T.un_61, q0, q1, q3]
          exact .inr hX
    · have hlt' : (0 ≤ (l.length : Int) - 1 - i) = False := eq_false (by omega)
      simp (config := { dsimp := false }) only [go_sem, reduceIte, Nat.reduceEqDiff, reduceCtorEq, Nat.reduceAdd, Nat.reduceMul, Int.reduceToNat, Int.reduceLE, Int.reduceLT, Int.reduceEq, Int.reduceNe, Nat.reduceLeDiff, Int.reducePow, Nat.reducePow, Nat.reduceLT, Nat.reduceSub, Nat.reduceMod, Nat.reduceDiv, T.ag_61, T.ag_66, T.es_61, T.ib_3, T.ii_61, T.ip_3, T.s8_61, T.sl_61, T.st_61, T.un_61, q0, q1, q3, hlt']
      obtain rfl : i = l.length := by omega
      exact .inl hJi
theorem BackPk_ph (h : Heap) (v : Value) (l : List Pk) (hr : RowIn pkE h v l) : @CallsH Try.prog 52 #[v] h ⟨fun u H => u = .func (.func 53) #[] #[.pointer (some ⟨h.next, 0, none⟩)] ∧ H = h.alloc (.cells [v] .own)⟩ := by
  have h1 := hr.one
  (refine calls_of_vc [] hm Try.func52 rfl (ts := [2]) rfl (by kernel_rfl) (by simp) ?_; simp (config := { dsimp := false }) only [go_sem, reduceIte, Nat.reduceEqDiff, reduceCtorEq, Nat.reduceAdd, Nat.reduceMul, Int.reduceToNat, Int.reduceLE, Int.reduceLT, Int.reduceEq, Int.reduceNe, Nat.reduceLeDiff, Int.reducePow, Nat.reducePow, Nat.reduceLT, Nat.reduceSub, Nat.reduceMod, Nat.reduceDiv, init_a, h1.1, h1.2])

theorem BackPk_phS (b : Nat) (v : Value) (l : List Pk) (hl : l.length < 9223372036854775807) : SeqH Try.prog 53 #[.pointer (some ⟨b, 0, none⟩)] ((List.range l.length).map fun i => #[.int .i64 (l.length - 1 - i : Nat), .agg (pkE.enc (l[l.length - 1 - i]?.getD ⟨0, 0, 0, false⟩)).toArray]) (fun H => ∃ o, H.get b = .live (.cells [v] o) ∧ RowIn pkE H v l) :=
  fun id J Jx h h0 hJ _ hY => by
    have hn : ((List.range l.length).map fun i => #[Value.int .i64 (l.length - 1 - i : Nat), Value.agg (pkE.enc (l[l.length - 1 - i]?.getD ⟨0, 0, 0, false⟩)).toArray]).length = l.length := by simp
    rw [hn]
    refine BackPk_ph1 h id b v l J Jx hl h0 hJ fun i x H hi hx hJi => hY i _ H ?_ hJi
    rw [List.getElem?_map, List.getElem?_range hi, Option.map_some, hx]; rfl

end Ph
