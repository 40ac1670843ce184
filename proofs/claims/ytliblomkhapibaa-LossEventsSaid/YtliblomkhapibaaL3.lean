import Derived.Test.YtliblomkhapibaaL2
set_option maxRecDepth 100000
set_option maxHeartbeats 1000000
set_option linter.unusedSimpArgs false
set_option linter.unusedVariables false
namespace Ph
open Go Go.Proofs
attribute [local irreducible] Value.cells
attribute [local go_sem ↓] y_move y_assign y_pick y_nil y_bin y_un y_fa y_field y_ext y_ia y_ix y_slice y_build y_mf y_load y_len y_min y_max y_conv y_bs y_mk y_alloc y_box y_store y_clear y_app y_callf y_callt s_move s_assign s_pick s_nil s_bin s_un s_fa s_field s_ext s_ia s_ix s_slice s_conv s_build s_bs s_mf s_alloc s_box s_load s_store s_len s_clear s_min s_max s_app s_call q_call q_move q_assign q_pick q_nil q_bin q_un q_fa q_field q_ext q_ia q_ix q_slice q_conv q_build q_mf q_load q_len q_min q_max l_nil l_move l_assign l_pick l_nilc l_bin l_un l_fa l_field l_ext l_ia l_ix l_slice l_conv l_build l_mf l_load l_len l_min l_max l_call put_eq putN_eq o_nil o_plain o_gate v_nil v_plain v_gate vc_skip vc_region vc_seq vc_cond vc_block vc_loop vc_rf vc_exit vc_ret blk_normal blk_ret blk_exit on_normal on_ret on_exit vc_drawn draw_q s_mk l_bs l_mk l_alloc l_box l_store l_app l_clear pl_done pl_takeS pl_take pl_alt pl_stop one_plain one_gate
attribute [local go_sem] clear_nil clear_sl onAgg_a onTuple_t onFn_f onFn_y onFunc_f c_int c_nil c_sl c_str sl_sl sl_nil sl_str ix_str ix_agg n_nil n_sl n_str app_eq k_nil k_sl len_sl len_str upd_some upd_none ev_tmp ev_const ev_func rd_some gdst_eq otmp_t otmp_c get_put get_alloc next_put next_alloc get_app next_app init_a resV1 resV2 onPtr_ptr onBool_b onInt_i onSlice_s onSome_s onCells_c lett_eq gate_tt gate_tf gate_ff gate_ft gate_dt gate_df also_eq bin un minmax io_none io_some bo_none bo_some partOf List.getElem?_cons_zero List.getElem?_cons_succ List.getElem?_toArray Option.map_some Option.map_none Option.bind_some ne_eq not_true_eq_false not_false_eq_true false_implies true_implies and_true true_and and_self Bool.false_eq_true Nat.zero_add Nat.add_zero List.size_toArray List.length_cons List.length_nil List.map_toArray List.map_cons List.map_nil Array.getD_eq_getD_getElem? Option.getD_some Bool.not_true Bool.not_false Bool.not_eq_true Option.isNone_some Option.isNone_none List.append_toArray List.append_nil List.nil_append List.cons_append decide_true decide_false in_nil in_cons Bool.and_false Bool.and_true Bool.or_false Bool.true_or Bool.false_or get_mask next_mask get_unmask next_unmask ac_move ac_assign ac_pick ac_nil ac_bin ac_un ac_fa ac_field ac_ext ac_ia ac_ix ac_slice ac_build ac_mf ac_call ac_load ac_conv accP_p accS_s accS_n accS_i accS_t fixed_ro fixed_lock fixed_own get_ro next_ro lock_live' lock_cells List.mem_cons List.not_mem_nil or_false false_or or_true true_or and_false false_and IntKind.bits Int.natCast_zero Int.natCast_one size_str data_str list_str mk_str ext_str app_str bytes_str w_byte w_byteu Int.toNat_natCast Int.toNat_zero Int.toNat_one Nat.sub_zero ge_iff_le gt_iff_lt Nat.le_refl Int.le_refl List.drop_zero Int.ofNat_eq_natCast Int.natCast_nonneg Int.sub_zero oc_int oc_bool oc_str oc_ptr oc_sl oc_map oc_func List.set_cons_zero List.set_cons_succ Nat.mul_one List.all_cons List.all_nil Bool.and_self res_nil res_tmp res_cell tup_one tup_two tup_nil fill_nil repl_zero cells_agg List.append_eq List.toList_toArray Nat.zero_mul Nat.one_mul repl_one repl_two onSome_build fill_cons onSome_lit splice_eq cells_int cells_bool cells_str cells_ptr cells_sl cells_map cells_func loadK_n loadK_s load_k storeK_n storeK_s store_k all_arr List.take_zero List.take_succ_cons List.drop_succ_cons List.take_nil List.drop_nil lk_own lk_ro lk_lock lk_lk fixed_lk gate_nt gate_nf gate3_b gate3_u undef Bool.true_and Bool.false_and nx_l nx_r nx_lt put_put resV0
/-! What is known of packets, in memory; numbers; out. -/
structure St where
  waits : List Pk
  top : Int
  best : Int
  smooth : Int
  vary : Int
  least : Int
  last : Int
  had : Bool
  window : Int
  mark : Int
  since : Int
  flight : Int
  tries : Int
  now : Int
def stC (wv : Value) (s : St) : List Value := [wv, .int .i64 s.top, .int .i64 s.best, .int .i64 s.smooth, .int .i64 s.vary, .int .i64 s.least, .int .i64 s.last, .bool s.had, .int .i64 s.window, .int .i64 s.mark, .int .i64 s.since, .int .i64 s.flight, .int .i64 s.tries, .int .i64 s.now]
def intE : Enc Int := ⟨1, fun x => [.int .i64 x], fun _ => rfl, fun _ => rfl⟩
theorem take_next {α : Type} {l : List α} {i : Nat} {x : α} (h : l[i]? = some x) : l.take (i + 1) = l.take i ++ [x] := by
  obtain ⟨hi, rfl⟩ := List.getElem?_eq_some_iff.1 h
  exact List.take_succ_eq_append_getElem hi
theorem numbers_ph (h : Heap) (v : Value) (l : List Pk) (hr : RowIn pkE h v l) (hlt : ∀ A n st, v = .slice (some A) n st → A.block < h.next) (hl : l.length ≤ 1000000) :
    @CallsH Try.prog 37 #[v] h ⟨fun u H => ∃ D, OwnRow intE H u D (l.map (·.num)) ∧ Upd h H [] ∧ ∀ d ∈ D, h.next ≤ d⟩ := by
  obtain ⟨A, st, hv⟩ := hr.form
  (refine calls_of_vc [] hm Try.func37 rfl (ts := [2]) rfl (by kernel_rfl) (by simp) ?_; simp (config := { dsimp := false }) only [go_sem, reduceIte, Nat.reduceEqDiff, reduceCtorEq, Nat.reduceAdd, Nat.reduceMul, Int.reduceToNat, Int.reduceLE, Int.reduceLT, Int.reduceEq, Int.reduceNe, Nat.reduceLeDiff, Int.reducePow, Nat.reducePow, Nat.reduceLT, Nat.reduceSub, Nat.reduceMod, Nat.reduceDiv, T.ag_3, T.ag_66, T.eb_22, T.es_61, T.ez_22, T.fo_66_0, T.ib_3, T.ii_22, T.ii_61, T.ip_3, T.s8_22, T.s8_61, T.sl_22, T.sl_61, T.st_22, T.st_61, T.un_22, T.un_61, T.zo_66, init_a, hv])
  refine loop_intro [] hm (fun r H => ∃ (i : Nat) (D : List Nat), i ≤ l.length ∧ OwnRow intE H (r 3) D ((l.take i).map (·.num)) ∧ Upd h H [] ∧ (∀ d ∈ D, h.next ≤ d) ∧ r 6 = v ∧ r 7 = .int .i64 l.length ∧ r 8 = .int .i64 i) (fun r _ => match r 8 with | .int _ i => l.length - i.toNat | _ => 0) ?_ ?_
  · exact ⟨0, [], by omega, by simp [upd]; exact OwnRow.nil _, Upd.refl _ _, by simp, by simp [upd, hv], by simp [upd], by simp [upd]⟩
  · rintro r H ⟨i, D, hi, hO, hU, hD, q6, q7, q8⟩
    by_cases hlt2 : i < l.length
    · have hlt' : ((i : Int) < (l.length : Int)) = True := eq_true (by omega)
      have hx := List.getElem?_eq_getElem hlt2
      rcases hr.upd (fun A n st e => hU.2 _ (hlt A n st e) (by simp)) with ⟨_, hnil⟩ | ⟨q, off, vs, o, hv', hq, hR⟩
      · rw [hnil] at hlt2; simp at hlt2
      · rw [hv'] at q6
        have ha := hR.at hx
        have h1' : List.take 4 (List.drop (off + i * 4) vs) = pkE.enc l[i] := ha.1
        have h2' : off + i * 4 + 4 ≤ vs.length := ha.2
        generalize hxx : l[i] = x at hx h1'
        have w1 : IntKind.i64.wrap ((i : Int) + 1) = ((i + 1 : Nat) : Int) := by rw [i64wrap] <;> omega
        simp (config := { dsimp := false }) only [go_sem, reduceIte, Nat.reduceEqDiff, reduceCtorEq, Nat.reduceAdd, Nat.reduceMul, Int.reduceToNat, Int.reduceLE, Int.reduceLT, Int.reduceEq, Int.reduceNe, Nat.reduceLeDiff, Int.reducePow, Nat.reducePow, Nat.reduceLT, Nat.reduceSub, Nat.reduceMod, Nat.reduceDiv, T.ag_3, T.ag_66, T.eb_22, T.es_61, T.ez_22, T.fo_66_0, T.ib_3, T.ii_22, T.ii_61, T.ip_3, T.s8_22, T.s8_61, T.sl_22, T.sl_61, T.st_22, T.st_61, T.un_22, T.un_61, T.zo_66, q6, q7, q8, hlt', hq, h1', pkE]
        refine ⟨h2', ?_⟩
        refine app_own (hO.keep (by simp [Heap.alloc, Heap.put]; omega) fun d hd => ?_) rfl (show _ = intE.flat [x.num] from rfl) rfl (by simp; omega) fun u H2 D2 hO2 hU2 hD2 => ?_
        · have := hO.lt d hd
          rw [get_alloc, if_neg (by simp [Heap.alloc, Heap.put]; omega), get_put, if_neg (by omega), get_alloc, if_neg (by omega)]
        have hU3 : Upd h H2 [] := ((hU.allocs.put (.inr hU.1)).allocs).trans hU2 fun d hd => .inr (hD d hd)
        simp (config := { dsimp := false }) only [go_sem, reduceIte, Nat.reduceEqDiff, reduceCtorEq, Nat.reduceAdd, Nat.reduceMul, Int.reduceToNat, Int.reduceLE, Int.reduceLT, Int.reduceEq, Int.reduceNe, Nat.reduceLeDiff, Int.reducePow, Nat.reducePow, Nat.reduceLT, Nat.reduceSub, Nat.reduceMod, Nat.reduceDiv, T.ag_3, T.ag_66, T.eb_22, T.es_61, T.ez_22, T.fo_66_0, T.ib_3, T.ii_22, T.ii_61, T.ip_3, T.s8_22, T.s8_61, T.sl_22, T.sl_61, T.st_22, T.st_61, T.un_22, T.un_61, T.zo_66, q6, q7, q8, w1]
        refine ⟨⟨i + 1, D2, hlt2, by rw [take_next hx, List.map_append]; exact hO2, hU3, fun d hd => ?_, hv'.symm, rfl⟩, by omega⟩
        rcases hD2 d hd with h1 | h1
        · exact hD d h1
        · have := hU.1; simp [Heap.alloc, Heap.put] at h1; omega
    · have hlt' : ((i : Int) < (l.length : Int)) = False := eq_false (by omega)
      simp (config := { dsimp := false }) only [go_sem, reduceIte, Nat.reduceEqDiff, reduceCtorEq, Nat.reduceAdd, Nat.reduceMul, Int.reduceToNat, Int.reduceLE, Int.reduceLT, Int.reduceEq, Int.reduceNe, Nat.reduceLeDiff, Int.reducePow, Nat.reducePow, Nat.reduceLT, Nat.reduceSub, Nat.reduceMod, Nat.reduceDiv, T.ag_3, T.ag_66, T.eb_22, T.es_61, T.ez_22, T.fo_66_0, T.ib_3, T.ii_22, T.ii_61, T.ip_3, T.s8_22, T.s8_61, T.sl_22, T.sl_61, T.st_22, T.st_61, T.un_22, T.un_61, T.zo_66, q6, q7, q8, hlt']
      obtain rfl : i = l.length := by omega
      rw [List.take_length] at hO
      exact ⟨D, hO, hU, hD⟩
end Ph
