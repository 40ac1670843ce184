import Derived.Test.YtcbgjjbbeeoekaaDoorP2
set_option maxRecDepth 100000
set_option maxHeartbeats 4000000
set_option linter.unusedSimpArgs false
set_option linter.unusedVariables false
namespace Ph
open Go Go.Proofs
attribute [local irreducible] Value.cells
attribute [local go_sem ↓] y_move y_assign y_pick y_nil y_bin y_un y_fa y_field y_ext y_ia y_ix y_slice y_build y_mf y_rg y_nx y_en y_mm y_lk y_mu y_del y_load y_len y_cap y_min y_max y_conv y_bs y_mk y_alloc y_box y_store y_clear y_app y_callf y_callt s_move s_assign s_pick s_nil s_bin s_un s_fa s_field s_ext s_ia s_ix s_slice s_conv s_build s_bs s_mf s_alloc s_box s_rg s_nx s_en s_mm s_lk s_mu s_del s_load s_store s_len s_clear s_cap s_min s_max s_app s_call q_call q_move q_assign q_pick q_nil q_bin q_un q_fa q_field q_ext q_ia q_ix q_slice q_conv q_build q_mf q_lk q_load q_len q_cap q_min q_max l_nil l_move l_assign l_pick l_nilc l_bin l_un l_fa l_field l_ext l_ia l_ix l_slice l_conv l_build l_mf l_lk l_load l_len l_cap l_min l_max l_call put_eq putN_eq o_nil o_plain o_gate v_nil v_plain v_gate vc_skip vc_region vc_seq vc_cond vc_block vc_loop vc_rf vc_exit vc_ret blk_normal blk_ret blk_exit on_normal on_ret on_exit vc_drawn draw_q s_mk l_bs l_mk l_rg l_nx l_en l_mm l_mu l_del l_alloc l_box l_store l_app l_clear pl_done pl_takeS pl_take pl_alt pl_stop one_plain one_gate
attribute [local go_sem] clear_nil clear_sl onAgg_a onTuple_t onFn_f onFn_y onFunc_f c_int c_nil c_sl c_str sl_sl sl_nil sl_str ix_str ix_agg n_nil n_sl n_str app_eq app_eqZ k_nil k_sl cap_n len_sl len_str len_mn len_m onMap_m onIter_i rg_n rg_m nx_p en_p lk_n lk_m up_m setM_n setM_s del_n del_m kt_s kt_i upd_some upd_none ev_tmp ev_const ev_func rd_some gdst_eq otmp_t otmp_c get_put get_alloc next_put next_alloc get_app next_app init_a resV1 resV2 onPtr_ptr onBool_b onInt_i onSlice_s onSome_s onCells_c lett_eq gate_tt gate_tf gate_ff gate_ft gate_dt gate_df also_eq bin un minmax io_none io_some bo_none bo_some partOf List.getElem?_cons_zero List.getElem?_cons_succ List.getElem?_toArray Option.map_some Option.map_none Option.bind_some ne_eq not_true_eq_false not_false_eq_true false_implies true_implies and_true true_and and_self Bool.false_eq_true Nat.zero_add Nat.add_zero List.size_toArray List.length_cons List.length_nil List.map_toArray List.map_cons List.map_nil Array.getD_eq_getD_getElem? Option.getD_some Bool.not_true Bool.not_false Bool.not_eq_true Option.isNone_some Option.isNone_none List.append_toArray List.append_nil List.nil_append List.cons_append decide_true decide_false in_nil in_cons Bool.and_false Bool.and_true Bool.or_false Bool.true_or Bool.false_or get_mask next_mask get_unmask next_unmask ac_move ac_assign ac_pick ac_nil ac_bin ac_un ac_fa ac_field ac_ext ac_ia ac_ix ac_slice ac_build ac_mf ac_call ac_len ac_lk ac_cap ac_min ac_max accM_m accM_n accM_s accM_t ac_load ac_conv accP_p accS_s accS_n accS_i accS_t fixed_ro fixed_lock fixed_own get_ro next_ro lock_live' lock_cells List.mem_cons List.not_mem_nil or_false false_or or_true true_or and_false false_and IntKind.bits Int.natCast_zero Int.natCast_one size_str data_str list_str mk_str ext_str app_str bytes_str w_byte w_byteu Int.toNat_natCast Int.toNat_zero Int.toNat_one Nat.sub_zero ge_iff_le gt_iff_lt Nat.le_refl Int.le_refl List.drop_zero Int.ofNat_eq_natCast Int.natCast_nonneg Int.sub_zero oc_int oc_bool oc_str oc_ptr oc_sl oc_map oc_func List.set_cons_zero List.set_cons_succ Nat.mul_one List.all_cons List.all_nil Bool.and_self res_nil res_tmp res_cell tup_one tup_two tup_nil fill_nil repl_zero cells_agg List.append_eq List.toList_toArray Nat.zero_mul Nat.one_mul repl_one repl_two onSome_build fill_cons onSome_lit splice_eq cells_int cells_bool cells_str cells_ptr cells_sl cells_map cells_func loadK_n loadK_s load_k storeK_n storeK_s store_k all_arr List.take_zero List.take_succ_cons List.drop_succ_cons List.take_nil List.drop_nil lk_own lk_ro lk_lock lk_lk fixed_lk gate_nt gate_nf gate3_b gate3_u undef Bool.true_and Bool.false_and nx_l nx_r nx_lt put_put resV0
attribute [local go_sem] str_inj size_str
/-! The document's Put: by a list of places. -/
def plE : Enc (List UInt8 × Nat) := ⟨2, fun x => [.string (str x.1), .int .i64 (x.2 : Int)], fun _ => rfl, fun _ => rfl⟩
theorem findD_app (k : List UInt8) : ∀ (m1 m2 : List (List UInt8 × Nat)), findD k (m1 ++ m2) = match findD k m1 with | some a => some a | none => findD k m2
  | [], m2 => rfl
  | x :: m1, m2 => by
    rw [List.cons_append, findD, findD]
    by_cases h : k = x.1 ∧ x.2 < 16384
    · rw [if_pos h, if_pos h]
    · rw [if_neg h, if_neg h]; exact findD_app k m1 m2
theorem findD_here {k : List UInt8} {m : List (List UInt8 × Nat)} {i : Nat} {x : List UInt8 × Nat} (h : findD k (m.take i) = none) (hx : m[i]? = some x) (h1 : k = x.1) (h2 : x.2 < 16384) : findD k m = some x.2 := by
  obtain ⟨hi, rfl⟩ := List.getElem?_eq_some_iff.1 hx
  conv => lhs; rw [← List.take_append_drop i m, findD_app, h, List.drop_eq_getElem_cons hi]
  rw [findD, if_pos ⟨h1, h2⟩]
theorem findD_next {k : List UInt8} {m : List (List UInt8 × Nat)} {i : Nat} {x : List UInt8 × Nat} (h : findD k (m.take i) = none) (hx : m[i]? = some x) (h1 : ¬ (k = x.1 ∧ x.2 < 16384)) : findD k (m.take (i + 1)) = none := by
  obtain ⟨hi, rfl⟩ := List.getElem?_eq_some_iff.1 hx
  rw [List.take_succ_eq_append_getElem hi, findD_app, h, findD, if_neg h1]; rfl
theorem pl_one (x : List UInt8 × Nat) : [Value.string (str x.1), .int .i64 (x.2 : Int)] = plE.flat [x] := by simp [Enc.flat, plE]
theorem len_own {α : Type} {E : Enc α} {P : Program} {h H : Heap} {w : Value} {D : List Nat} {l : List α} (hO : OwnRow E h w D l) {t : Nat} {K : Value → Prop} : @lenH P (some t) w H ⟨K⟩ = @onSome _ (if isSl P t then some (.int .i64 l.length) else none) ⟨K⟩ := by
  obtain ⟨A, st, rfl⟩ := hO.row.form
  exact len_sl
theorem far_hi {a : Nat} (ha : a < 16384) : IntKind.u8.wrap (IntKind.i64.wrap (192 + IntKind.i64.wrap ((a : Int).tdiv 256))) = ((UInt8.ofNat (192 + a / 256)).toNat : Int) := by
  have e : (a : Int).tdiv 256 = ((a / 256 : Nat) : Int) := by rw [Int.tdiv_eq_ediv_of_nonneg (by omega)]; rfl
  rw [e, i64wrap (x := ((a / 256 : Nat) : Int)) (by omega) (by omega), i64wrap (by omega) (by omega), u8wrap (by omega) (by omega)]; simp; omega
theorem far_lo {a : Nat} : IntKind.u8.wrap ((a : Int).tmod 256) = ((UInt8.ofNat (a % 256)).toNat : Int) := by
  have e : (a : Int).tmod 256 = ((a % 256 : Nat) : Int) := by rw [Int.tmod_eq_emod_of_nonneg (by omega)]; rfl
  rw [e, u8wrap (by omega) (by omega)]; simp
theorem two_val (a b : UInt8) : bytesVal [.int .u8 (a.toNat : Int), .int .u8 (b.toNat : Int)] = some [a, b] := bc_val (l := [a, b])
theorem one_val (a : UInt8) : bytesVal [.int .u8 (a.toNat : Int)] = some [a] := bc_val (l := [a])
theorem own_empty {α : Type} {E : Enc α} {H : Heap} {k : Nat} (hk : k = E.k) : OwnRow E (H.alloc (.cells [] .own)) (.slice (some ⟨H.next, 0, none⟩) 0 k) [H.next] [] :=
  .inr ⟨H.next, 0, [], rfl, Nat.lt_succ_self _, by rw [hk]; rfl, by rw [get_alloc, if_pos rfl], by simp, by simp [Enc.flat]⟩
end Ph
