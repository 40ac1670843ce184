import Derived.Test.YtlpbikgdffbplaaDoorE5
set_option maxRecDepth 100000
set_option maxHeartbeats 4000000
set_option linter.unusedSimpArgs false
set_option linter.unusedVariables false
namespace Ph
open Go Go.Proofs
attribute [local irreducible] Value.cells
attribute [local go_sem ↓] y_move y_assign y_pick y_nil y_bin y_un y_fa y_field y_ext y_ia y_ix y_slice y_build y_mf y_rg y_nx y_en y_mm y_lk y_mu y_del y_load y_len y_cap y_min y_max y_conv y_bs y_mk y_alloc y_box y_store y_clear y_app y_callf y_callt s_move s_assign s_pick s_nil s_bin s_un s_fa s_field s_ext s_ia s_ix s_slice s_conv s_build s_bs s_mf s_alloc s_box s_rg s_nx s_en s_mm s_lk s_mu s_del s_load s_store s_len s_clear s_cap s_min s_max s_app s_call q_call q_move q_assign q_pick q_nil q_bin q_un q_fa q_field q_ext q_ia q_ix q_slice q_conv q_build q_mf q_lk q_load q_len q_cap q_min q_max l_nil l_move l_assign l_pick l_nilc l_bin l_un l_fa l_field l_ext l_ia l_ix l_slice l_conv l_build l_mf l_lk l_load l_len l_cap l_min l_max l_call put_eq putN_eq o_nil o_plain o_gate v_nil v_plain v_gate vc_skip vc_region vc_seq vc_cond vc_block vc_loop vc_rf vc_exit vc_ret blk_normal blk_ret blk_exit on_normal on_ret on_exit vc_drawn draw_q s_mk l_bs l_mk l_rg l_nx l_en l_mm l_mu l_del l_alloc l_box l_store l_app l_clear pl_done pl_takeS pl_take pl_alt pl_stop one_plain one_gate
attribute [local go_sem] clear_nil clear_sl onAgg_a onTuple_t onFn_f onFn_y onFunc_f c_int c_nil c_sl c_str sl_sl sl_nil sl_str ix_str ix_agg n_nil n_sl n_str app_eq k_nil k_sl cap_n len_sl len_str len_mn len_m onMap_m onIter_i rg_n rg_m nx_p en_p lk_n lk_m up_m setM_n setM_s del_n del_m kt_s kt_i upd_some upd_none ev_tmp ev_const ev_func rd_some gdst_eq otmp_t otmp_c get_put get_alloc next_put next_alloc get_app next_app init_a resV1 resV2 onPtr_ptr onBool_b onInt_i onSlice_s onSome_s onCells_c lett_eq gate_tt gate_tf gate_ff gate_ft gate_dt gate_df also_eq bin un minmax io_none io_some bo_none bo_some partOf List.getElem?_cons_zero List.getElem?_cons_succ List.getElem?_toArray Option.map_some Option.map_none Option.bind_some ne_eq not_true_eq_false not_false_eq_true false_implies true_implies and_true true_and and_self Bool.false_eq_true Nat.zero_add Nat.add_zero List.size_toArray List.length_cons List.length_nil List.map_toArray List.map_cons List.map_nil Array.getD_eq_getD_getElem? Option.getD_some Bool.not_true Bool.not_false Bool.not_eq_true Option.isNone_some Option.isNone_none List.append_toArray List.append_nil List.nil_append List.cons_append decide_true decide_false in_nil in_cons Bool.and_false Bool.and_true Bool.or_false Bool.true_or Bool.false_or get_mask next_mask get_unmask next_unmask ac_move ac_assign ac_pick ac_nil ac_bin ac_un ac_fa ac_field ac_ext ac_ia ac_ix ac_slice ac_build ac_mf ac_call ac_len ac_lk ac_cap ac_min ac_max accM_m accM_n accM_s accM_t ac_load ac_conv accP_p accS_s accS_n accS_i accS_t fixed_ro fixed_lock fixed_own get_ro next_ro lock_live' lock_cells List.mem_cons List.not_mem_nil or_false false_or or_true true_or and_false false_and IntKind.bits Int.natCast_zero Int.natCast_one size_str data_str list_str mk_str ext_str app_str bytes_str w_byte w_byteu Int.toNat_natCast Int.toNat_zero Int.toNat_one Nat.sub_zero ge_iff_le gt_iff_lt Nat.le_refl Int.le_refl List.drop_zero Int.ofNat_eq_natCast Int.natCast_nonneg Int.sub_zero oc_int oc_bool oc_str oc_ptr oc_sl oc_map oc_func List.set_cons_zero List.set_cons_succ Nat.mul_one List.all_cons List.all_nil Bool.and_self res_nil res_tmp res_cell tup_one tup_two tup_nil fill_nil repl_zero cells_agg List.append_eq List.toList_toArray Nat.zero_mul Nat.one_mul repl_one repl_two onSome_build fill_cons onSome_lit splice_eq cells_int cells_bool cells_str cells_ptr cells_sl cells_map cells_func loadK_n loadK_s load_k storeK_n storeK_s store_k all_arr List.take_zero List.take_succ_cons List.drop_succ_cons List.take_nil List.drop_nil lk_own lk_ro lk_lock lk_lk fixed_lk gate_nt gate_nf gate3_b gate3_u undef Bool.true_and Bool.false_and nx_l nx_r nx_lt put_put resV0
attribute [local go_sem] str_inj size_str
theorem rowT_iff {vs : List Value} {off : Nat} {l : List (List UInt8)} : RowV tE vs off l ↔ off + l.length ≤ vs.length ∧ ∀ i x, l[i]? = some x → vs[off + i]? = some (.string (str x)) := by
  constructor
  · intro h
    refine ⟨by have := h.1; rw [show tE.k = 1 from rfl, Nat.mul_one] at this; exact this, fun i x hx => ?_⟩
    have := h.cell hx (j := 0) Nat.zero_lt_one
    rw [show tE.k = 1 from rfl, Nat.mul_one, Nat.add_zero] at this
    exact this
  · rintro ⟨h1, h2⟩
    refine ⟨by rw [show tE.k = 1 from rfl, Nat.mul_one]; exact h1, ?_⟩
    rw [show tE.k = 1 from rfl, Nat.mul_one, t_flat]
    apply List.ext_getElem?
    intro i
    rw [List.getElem?_map]
    by_cases hi : i < l.length
    · rw [List.getElem?_take_of_lt hi, List.getElem?_drop, h2 i _ (List.getElem?_eq_getElem hi), List.getElem?_eq_getElem hi]; rfl
    · rw [List.getElem?_eq_none (by simp; omega), List.getElem?_eq_none (by omega)]; rfl
theorem put_twice {h : Heap} {q : Nat} {b c : Slot} : (h.put q b).put q c = h.put q c := by
  unfold Heap.put
  congr 1
  funext i
  by_cases e : i = q
  · simp [e]
  · simp [e]
theorem put_self {h : Heap} {q : Nat} {b : Slot} (hq : h.get q = b) : h.put q b = h := by
  unfold Heap.put
  cases h with
  | mk g n =>
    congr 1
    funext i
    by_cases e : i = q
    · subst e; rw [if_pos rfl]; exact hq.symm
    · rw [if_neg e]
theorem Reverse_ph (h : Heap) (v : Value) (D : List Nat) (l : List (List UInt8)) (hO : OwnRow tE h v D l) (hl : l.length < 4611686018427387904) :
    @CallsH Tryd.prog 21 #[v] h ⟨fun _ H => OwnRow tE H v D l.reverse ∧ Upd h H D⟩ := by
  have wl : IntKind.i64.wrap ((l.length : Int) - 1) = (l.length : Int) - 1 := i64wrap (by omega) (by omega)
  by_cases h2 : l.length ≤ 1
  · have e : l.reverse = l := by
      match l, h2 with
      | [], _ => rfl
      | [_], _ => rfl
    rw [e]
    obtain ⟨A, st, hv⟩ := hO.form
    have c1 : ((0 : Int) < (l.length : Int) - 1) = False := eq_false (by omega)
    (refine calls_of_vc [] hm Tryd.func21 rfl (ts := []) rfl (by kernel_rfl) (by simp) ?_; simp (config := { dsimp := false, maxSteps := 10000000 }) (disch := omega) only [go_sem, reduceIte, Nat.reduceEqDiff, reduceCtorEq, Nat.reduceAdd, Nat.reduceMul, Int.reduceToNat, Int.reduceLE, Int.reduceLT, Int.reduceEq, Int.reduceNe, Nat.reduceLeDiff, Int.reducePow, Nat.reducePow, Nat.reduceLT, Nat.reduceSub, Nat.reduceMod, Nat.reduceDiv, slot_neg, slot_pos, T.ag_9, T.es_22, T.ib_3, T.ii_22, T.ip_3, T.s8_22, T.sl_22, T.st_22, T.un_22, init_a, wl, hv])
    refine loop_intro [] hm (fun r H => r 2 = .int .i64 0 ∧ r 3 = .int .i64 ((l.length : Int) - 1) ∧ H = h) (fun r _ => 0) ?_ ?_
    · exact ⟨by simp [upd], by simp [upd], rfl⟩
    · rintro r H ⟨q2, q3, rfl⟩
      simp (config := { dsimp := false, maxSteps := 10000000 }) (disch := omega) only [go_sem, reduceIte, Nat.reduceEqDiff, reduceCtorEq, Nat.reduceAdd, Nat.reduceMul, Int.reduceToNat, Int.reduceLE, Int.reduceLT, Int.reduceEq, Int.reduceNe, Nat.reduceLeDiff, Int.reducePow, Nat.reducePow, Nat.reduceLT, Nat.reduceSub, Nat.reduceMod, Nat.reduceDiv, slot_neg, slot_pos, T.ag_9, T.es_22, T.ib_3, T.ii_22, T.ip_3, T.s8_22, T.sl_22, T.st_22, T.un_22, q2, q3, c1]
      exact ⟨hv ▸ hO, Upd.refl _ _⟩
  rcases hO with ⟨_, h1, _⟩ | ⟨q, off, vs, rfl, hqn, rfl, hq, hR⟩
  · subst h1; simp at h2
  rw [rowT_iff] at hR
  (refine calls_of_vc [] hm Tryd.func21 rfl (ts := []) rfl (by kernel_rfl) (by simp) ?_; simp (config := { dsimp := false, maxSteps := 10000000 }) (disch := omega) only [go_sem, reduceIte, Nat.reduceEqDiff, reduceCtorEq, Nat.reduceAdd, Nat.reduceMul, Int.reduceToNat, Int.reduceLE, Int.reduceLT, Int.reduceEq, Int.reduceNe, Nat.reduceLeDiff, Int.reducePow, Nat.reducePow, Nat.reduceLT, Nat.reduceSub, Nat.reduceMod, Nat.reduceDiv, slot_neg, slot_pos, T.ag_9, T.es_22, T.ib_3, T.ii_22, T.ip_3, T.s8_22, T.sl_22, T.st_22, T.un_22, init_a, wl])
  refine loop_intro [] hm (fun r H => ∃ (i : Nat) (vs' : List Value), 2 * i ≤ l.length ∧ vs'.length = vs.length ∧ (∀ p x, l[p]? = some x → vs'[off + p]? = (if p < i ∨ l.length - i ≤ p then (l[l.length - 1 - p]?).map fun y => Value.string (str y) else some (.string (str x)))) ∧ r 0 = .slice (some ⟨q, off, none⟩) l.length 1 ∧ r 2 = .int .i64 i ∧ r 3 = .int .i64 ((l.length : Int) - 1 - i) ∧ H = h.put q (.live (.cells vs' .own))) (fun r _ => match r 2 with | .int _ i => l.length - i.toNat | _ => 0) ?_ ?_
  · exact ⟨0, vs, by omega, rfl, fun p x hx => by rw [if_neg (by have := (List.getElem?_eq_some_iff.1 hx).1; omega)]; exact hR.2 p x hx, by simp [upd, initR]; rfl, by simp [upd], by simp [upd], (put_self hq).symm⟩
  · rintro r H ⟨i, vs', hi, hlen, hcells, q0, q2, q3, e⟩
    have gH : H.get q = .live (.cells vs' .own) := by rw [e, get_put, if_pos rfl]
    have w1 : IntKind.i64.wrap ((i : Int) + 1) = ((i + 1 : Nat) : Int) := by rw [i64wrap] <;> omega
    have w2 : IntKind.i64.wrap ((l.length : Int) - 1 - i - 1) = (l.length : Int) - 1 - ((i + 1 : Nat) : Int) := by rw [i64wrap] <;> omega
    by_cases hij : 2 * i + 1 < l.length
    · have c1 : ((i : Int) < (l.length : Int) - 1 - i) = True := eq_true (by omega)
      have ej : ((l.length : Int) - 1 - i).toNat = l.length - 1 - i := by omega
      have hxi : l[i]? = some l[i] := List.getElem?_eq_getElem (by omega)
      have hyi : l[l.length - 1 - i]? = some l[l.length - 1 - i] := List.getElem?_eq_getElem (by omega)
      have hB := hcells _ _ hxi
      have hA := hcells _ _ hyi
      rw [if_neg (by omega)] at hA hB
      have hlv := hR.1
      simp (config := { dsimp := false, maxSteps := 10000000 }) (disch := omega) only [go_sem, reduceIte, Nat.reduceEqDiff, reduceCtorEq, Nat.reduceAdd, Nat.reduceMul, Int.reduceToNat, Int.reduceLE, Int.reduceLT, Int.reduceEq, Int.reduceNe, Nat.reduceLeDiff, Int.reducePow, Nat.reducePow, Nat.reduceLT, Nat.reduceSub, Nat.reduceMod, Nat.reduceDiv, slot_neg, slot_pos, T.ag_9, T.es_22, T.ib_3, T.ii_22, T.ip_3, T.s8_22, T.sl_22, T.st_22, T.un_22, q0, q2, q3, c1, gH]
      refine draw_plan0 (.takeS 0 (.takeS 1 (.takeS 4 (.takeS 5 (.takeS 6 (.takeS 7 (.takeS 8 (.takeS 9 (.takeS 10 (.takeS 11 (.takeS 12 (.take 2 (.take 3 (.alt 13 (.takeS 14 (.alt 15 .done .stop)) .stop)))))))))))))) hm (by kernel_rfl) (by kernel_rfl) ?_
      simp (config := { dsimp := false, maxSteps := 10000000 }) (disch := omega) only [go_sem, reduceIte, Nat.reduceEqDiff, reduceCtorEq, Nat.reduceAdd, Nat.reduceMul, Int.reduceToNat, Int.reduceLE, Int.reduceLT, Int.reduceEq, Int.reduceNe, Nat.reduceLeDiff, Int.reducePow, Nat.reducePow, Nat.reduceLT, Nat.reduceSub, Nat.reduceMod, Nat.reduceDiv, slot_neg, slot_pos, T.ag_9, T.es_22, T.ib_3, T.ii_22, T.ip_3, T.s8_22, T.sl_22, T.st_22, T.un_22, q0, q2, q3, c1, gH, ej, hA, hB, w1, w2]
      have n1 : off + (l.length - 1 - i) ≠ off + i := by omega
      refine ⟨by omega, by omega, by omega, by omega, by omega, by rw [List.length_set]; omega, ⟨i + 1, (vs'.set (off + i) (.string (str l[l.length - 1 - i]))).set (off + (l.length - 1 - i)) (.string (str l[i])), by omega, by rw [List.length_set, List.length_set]; exact hlen, fun p x hx => ?_, rfl, rfl, by rw [e, put_twice]⟩, by omega⟩
      have hp : p < l.length := (List.getElem?_eq_some_iff.1 hx).1
      by_cases hpj : p = l.length - 1 - i
      · subst hpj
        rw [List.getElem?_set_self (by rw [List.length_set]; omega), if_pos (by omega), show l.length - 1 - (l.length - 1 - i) = i by omega, hxi]; rfl
      rw [List.getElem?_set_ne (by omega)]
      by_cases hpi : p = i
      · subst hpi
        rw [List.getElem?_set_self (by omega), if_pos (by omega), hyi]; rfl
      rw [List.getElem?_set_ne (by omega), hcells p x hx]
      by_cases hc : p < i ∨ l.length - i ≤ p
      · rw [if_pos hc, if_pos (by omega)]
      · rw [if_neg hc, if_neg (by omega)]
    · have c1 : ((i : Int) < (l.length : Int) - 1 - i) = False := eq_false (by omega)
      simp (config := { dsimp := false, maxSteps := 10000000 }) (disch := omega) only [go_sem, reduceIte, Nat.reduceEqDiff, reduceCtorEq, Nat.reduceAdd, Nat.reduceMul, Int.reduceToNat, Int.reduceLE, Int.reduceLT, Int.reduceEq, Int.reduceNe, Nat.reduceLeDiff, Int.reducePow, Nat.reducePow, Nat.reduceLT, Nat.reduceSub, Nat.reduceMod, Nat.reduceDiv, slot_neg, slot_pos, T.ag_9, T.es_22, T.ib_3, T.ii_22, T.ip_3, T.s8_22, T.sl_22, T.st_22, T.un_22, q0, q2, q3, c1]
      subst e
      refine ⟨.inr ⟨q, off, vs', rfl, hqn, by rw [List.length_reverse], gH, ?_⟩, (Upd.refl _ _).put (.inl (by simp))⟩
      rw [rowT_iff]
      refine ⟨by rw [List.length_reverse, hlen]; exact hR.1, fun p x hx => ?_⟩
      have hp : p < l.length := by have := (List.getElem?_eq_some_iff.1 hx).1; simpa using this
      rw [List.getElem?_reverse hp] at hx
      rw [hcells p _ (List.getElem?_eq_getElem hp)]
      by_cases hpi : p < i ∨ l.length - i ≤ p
      · rw [if_pos hpi, hx]; rfl
      · rw [if_neg hpi]
        have : l.length - 1 - p = p := by omega
        rw [this, List.getElem?_eq_getElem hp] at hx
        cases hx; rfl
end Ph
