import Derived.Test.YthghohhaagkbnaaC11
set_option maxRecDepth 100000
set_option maxHeartbeats 4000000
set_option linter.unusedSimpArgs false
set_option linter.unusedVariables false
namespace Ph
open Go Go.Proofs
attribute [local irreducible] Value.cells
attribute [local go_sem ↓] y_move y_assign y_pick y_nil y_bin y_un y_fa y_field y_ext y_ia y_ix y_slice y_build y_mf y_rg y_nx y_en y_mm y_lk y_mu y_del y_load y_len y_min y_max y_conv y_bs y_mk y_alloc y_box y_store y_clear y_app y_callf y_callt s_move s_assign s_pick s_nil s_bin s_un s_fa s_field s_ext s_ia s_ix s_slice s_conv s_build s_bs s_mf s_alloc s_box s_rg s_nx s_en s_mm s_lk s_mu s_del s_load s_store s_len s_clear s_min s_max s_app s_call q_call q_move q_assign q_pick q_nil q_bin q_un q_fa q_field q_ext q_ia q_ix q_slice q_conv q_build q_mf q_lk q_load q_len q_min q_max l_nil l_move l_assign l_pick l_nilc l_bin l_un l_fa l_field l_ext l_ia l_ix l_slice l_conv l_build l_mf l_lk l_load l_len l_min l_max l_call put_eq putN_eq o_nil o_plain o_gate v_nil v_plain v_gate vc_skip vc_region vc_seq vc_cond vc_block vc_loop vc_rf vc_exit vc_ret blk_normal blk_ret blk_exit on_normal on_ret on_exit vc_drawn draw_q s_mk l_bs l_mk l_rg l_nx l_en l_mm l_mu l_del l_alloc l_box l_store l_app l_clear pl_done pl_takeS pl_take pl_alt pl_stop one_plain one_gate
attribute [local go_sem] clear_nil clear_sl onAgg_a onTuple_t onFn_f onFn_y onFunc_f c_int c_nil c_sl c_str sl_sl sl_nil sl_str ix_str ix_agg n_nil n_sl n_str app_eq k_nil k_sl len_sl len_str len_mn len_m onMap_m onIter_i rg_n rg_m nx_p en_p lk_n lk_m up_m setM_n setM_s del_n del_m kt_s kt_i upd_some upd_none ev_tmp ev_const ev_func rd_some gdst_eq otmp_t otmp_c get_put get_alloc next_put next_alloc get_app next_app init_a resV1 resV2 onPtr_ptr onBool_b onInt_i onSlice_s onSome_s onCells_c lett_eq gate_tt gate_tf gate_ff gate_ft gate_dt gate_df also_eq bin un minmax io_none io_some bo_none bo_some partOf List.getElem?_cons_zero List.getElem?_cons_succ List.getElem?_toArray Option.map_some Option.map_none Option.bind_some ne_eq not_true_eq_false not_false_eq_true false_implies true_implies and_true true_and and_self Bool.false_eq_true Nat.zero_add Nat.add_zero List.size_toArray List.length_cons List.length_nil List.map_toArray List.map_cons List.map_nil Array.getD_eq_getD_getElem? Option.getD_some Bool.not_true Bool.not_false Bool.not_eq_true Option.isNone_some Option.isNone_none List.append_toArray List.append_nil List.nil_append List.cons_append decide_true decide_false in_nil in_cons Bool.and_false Bool.and_true Bool.or_false Bool.true_or Bool.false_or get_mask next_mask get_unmask next_unmask ac_move ac_assign ac_pick ac_nil ac_bin ac_un ac_fa ac_field ac_ext ac_ia ac_ix ac_slice ac_build ac_mf ac_call ac_len ac_lk ac_min ac_max accM_m accM_n accM_s accM_t ac_load ac_conv accP_p accS_s accS_n accS_i accS_t fixed_ro fixed_lock fixed_own get_ro next_ro lock_live' lock_cells List.mem_cons List.not_mem_nil or_false false_or or_true true_or and_false false_and IntKind.bits Int.natCast_zero Int.natCast_one size_str data_str list_str mk_str ext_str app_str bytes_str w_byte w_byteu Int.toNat_natCast Int.toNat_zero Int.toNat_one Nat.sub_zero ge_iff_le gt_iff_lt Nat.le_refl Int.le_refl List.drop_zero Int.ofNat_eq_natCast Int.natCast_nonneg Int.sub_zero oc_int oc_bool oc_str oc_ptr oc_sl oc_map oc_func List.set_cons_zero List.set_cons_succ Nat.mul_one List.all_cons List.all_nil Bool.and_self res_nil res_tmp res_cell tup_one tup_two tup_nil fill_nil repl_zero cells_agg List.append_eq List.toList_toArray Nat.zero_mul Nat.one_mul repl_one repl_two onSome_build fill_cons onSome_lit splice_eq cells_int cells_bool cells_str cells_ptr cells_sl cells_map cells_func loadK_n loadK_s load_k storeK_n storeK_s store_k all_arr List.take_zero List.take_succ_cons List.drop_succ_cons List.take_nil List.drop_nil lk_own lk_ro lk_lock lk_lk fixed_lk gate_nt gate_nf gate3_b gate3_u undef Bool.true_and Bool.false_and nx_l nx_r nx_lt put_put resV0
/-! The document's cache: Drop, Get, Put. -/
def strKeys (c : Ca) : Prop := ∀ x ∈ c.l, isStrV x.key
theorem strKeys.time {c : Ca} (h : strKeys c) (at_ : Int) : strKeys (timeC c at_) := fun x hx => h x (List.mem_filter.1 hx).1
theorem strKeys.without {c : Ca} (h : strKeys c) (k : Value) : strKeys (without c k) := fun x hx => h x (List.mem_filter.1 hx).1
theorem Rdrop_ph (h : Heap) (p : Nat) (D : List Nat) (v : Value) (c : Ca) (k : List UInt8) (at_ : Int) (hC : RfR h p D v c) (hkd : strKeys c) :
    @CallsH Try.prog 37 #[.pointer (some ⟨p, 0, none⟩), .string (str k), .int .i64 at_] h ⟨fun u H => u = .bool (decide ((without (timeC c at_) (.string (str k))).l.length < (timeC c at_).l.length)) ∧ ∃ D' v', RfR H p D' v' (without (timeC c at_) (.string (str k))) ∧ (∀ d ∈ D', h.next ≤ d) ∧ Upd h H [p]⟩ := by
  have hpn := hC.lt
  (refine calls_of_vc [] hm Try.func37 rfl (ts := [6]) rfl (by kernel_rfl) (by simp) ?_; simp (config := { dsimp := false, maxSteps := 10000000 }) (disch := omega) only [go_sem, reduceIte, Nat.reduceEqDiff, reduceCtorEq, Nat.reduceAdd, Nat.reduceMul, Int.reduceToNat, Int.reduceLE, Int.reduceLT, Int.reduceEq, Int.reduceNe, Nat.reduceLeDiff, Int.reducePow, Nat.reducePow, Nat.reduceLT, Nat.reduceSub, Nat.reduceMod, Nat.reduceDiv, slot_neg, slot_pos, T.gf_65, T.gf_66, init_a])
  refine (Rtime_ph h p D v c at_ hC).mono fun u H ⟨D1, v1, h1, h2, h3⟩ => ?_
  simp (config := { dsimp := false, maxSteps := 10000000 }) (disch := omega) only [go_sem, reduceIte, Nat.reduceEqDiff, reduceCtorEq, Nat.reduceAdd, Nat.reduceMul, Int.reduceToNat, Int.reduceLE, Int.reduceLT, Int.reduceEq, Int.reduceNe, Nat.reduceLeDiff, Int.reducePow, Nat.reducePow, Nat.reduceLT, Nat.reduceSub, Nat.reduceMod, Nat.reduceDiv, slot_neg, slot_pos, T.gf_65, T.gf_66]
  refine (Rwithout_ph H p D1 v1 _ k h1 (hkd.time at_)).mono fun u H2 ⟨hu, D2, v2, k1, k2, k3⟩ => ?_
  subst hu
  have := h3.1
  simp (config := { dsimp := false, maxSteps := 10000000 }) (disch := omega) only [go_sem, reduceIte, Nat.reduceEqDiff, reduceCtorEq, Nat.reduceAdd, Nat.reduceMul, Int.reduceToNat, Int.reduceLE, Int.reduceLT, Int.reduceEq, Int.reduceNe, Nat.reduceLeDiff, Int.reducePow, Nat.reducePow, Nat.reduceLT, Nat.reduceSub, Nat.reduceMod, Nat.reduceDiv, slot_neg, slot_pos, T.gf_65, T.gf_66]
  exact ⟨D2, v2, k1, fun d hd => by have := k2 d hd; omega, h3.trans k3 fun d hd => .inl hd⟩
theorem Rget_ph (h : Heap) (p : Nat) (D : List Nat) (v : Value) (c : Ca) (k : List UInt8) (at_ : Int) (hC : RfR h p D v c) (hkd : strKeys c) :
    @CallsH Try.prog 36 #[.pointer (some ⟨p, 0, none⟩), .string (str k), .int .i64 at_] h ⟨fun u H => (∃ D' v', RfR H p D' v' (timeC c at_) ∧ (∀ d ∈ D', h.next ≤ d) ∧ Upd h H [p]) ∧ ((∃ x ∈ (timeC c at_).l, x.key = .string (str k) ∧ u = .tuple #[x.val, .int .i64 (IntKind.i64.wrap (x.goes - (timeC c at_).now)), .bool true]) ∨ ((∀ x ∈ (timeC c at_).l, x.key ≠ .string (str k)) ∧ u = .tuple #[.int .i64 0, .int .i64 0, .bool false]))⟩ := by
  have hpn := hC.lt
  (refine calls_of_vc [] hm Try.func36 rfl (ts := [6, 7, 8]) rfl (by kernel_rfl) (by simp) ?_; simp (config := { dsimp := false, maxSteps := 10000000 }) (disch := omega) only [go_sem, reduceIte, Nat.reduceEqDiff, reduceCtorEq, Nat.reduceAdd, Nat.reduceMul, Int.reduceToNat, Int.reduceLE, Int.reduceLT, Int.reduceEq, Int.reduceNe, Nat.reduceLeDiff, Int.reducePow, Nat.reducePow, Nat.reduceLT, Nat.reduceSub, Nat.reduceMod, Nat.reduceDiv, slot_neg, slot_pos, T.ag_3, T.ag_71, T.ag_9, T.es_71, T.fo_77_0, T.fo_77_2, T.fo_82_0, T.fo_82_1, T.fo_82_2, T.gf_65, T.ib_3, T.ib_9, T.ii_71, T.ip_3, T.ip_9, T.s8_71, T.sl_71, T.st_71, T.un_71, init_a])
  refine (Rtime_ph h p D v c at_ hC).mono fun u H1 ⟨D1, v1, hC1, h2, h3⟩ => ?_
  have hkd1 := hkd.time at_
  generalize timeC c at_ = c1 at *
  obtain ⟨hpn1, hpD, hp, hr, hsm⟩ := hC1
  simp (config := { dsimp := false, maxSteps := 10000000 }) (disch := omega) only [go_sem, reduceIte, Nat.reduceEqDiff, reduceCtorEq, Nat.reduceAdd, Nat.reduceMul, Int.reduceToNat, Int.reduceLE, Int.reduceLT, Int.reduceEq, Int.reduceNe, Nat.reduceLeDiff, Int.reducePow, Nat.reducePow, Nat.reduceLT, Nat.reduceSub, Nat.reduceMod, Nat.reduceDiv, slot_neg, slot_pos, T.ag_3, T.ag_71, T.ag_9, T.es_71, T.fo_77_0, T.fo_77_2, T.fo_82_0, T.fo_82_1, T.fo_82_2, T.gf_65, T.ib_3, T.ib_9, T.ii_71, T.ip_3, T.ip_9, T.s8_71, T.sl_71, T.st_71, T.un_71]
  obtain ⟨A, st, hv⟩ := hr.form
  refine loop_intro [] hm (fun r H => H = H1 ∧ ∃ (i : Nat), i ≤ c1.l.length ∧ (∀ j x, j < i → c1.l[j]? = some x → x.key ≠ .string (str k)) ∧ r 0 = .pointer (some ⟨p, 0, none⟩) ∧ r 1 = .string (str k) ∧ r 9 = .int .i64 i) (fun r _ => match r 9 with | .int _ i => c1.l.length - i.toNat | _ => 0) ?_ ?_
  · exact ⟨rfl, 0, by omega, by omega, by simp [upd, initR], by simp [upd, initR], by simp [upd]⟩
  · rintro r H ⟨rfl, i, hi, hno, q0, q1, q9⟩
    by_cases hlt : i < c1.l.length
    · have hlt' : ((i : Int) < (c1.l.length : Int)) = True := eq_true (by omega)
      have hx : c1.l[i]? = some c1.l[i] := List.getElem?_eq_getElem hlt
      have hxm : c1.l[i] ∈ c1.l := List.getElem_mem _
      have w1 : IntKind.i64.wrap ((i : Int) + 1) = ((i + 1 : Nat) : Int) := by rw [i64wrap] <;> omega
      obtain ⟨q, off, vs, o, hv', hq, y0, y1, yk, yv, yg⟩ := row_th hr.row hx
      obtain ⟨s, hs⟩ := hkd1 c1.l[i] hxm
      obtain ⟨m, rfl⟩ := str_ex s
      generalize c1.l[i] = x at *
      rw [hs] at yk
      by_cases e1 : m = k
      · have c1' : (m = k) = True := eq_true e1
        simp (config := { dsimp := false, maxSteps := 10000000 }) (disch := omega) only [go_sem, reduceIte, Nat.reduceEqDiff, reduceCtorEq, Nat.reduceAdd, Nat.reduceMul, Int.reduceToNat, Int.reduceLE, Int.reduceLT, Int.reduceEq, Int.reduceNe, Nat.reduceLeDiff, Int.reducePow, Nat.reducePow, Nat.reduceLT, Nat.reduceSub, Nat.reduceMod, Nat.reduceDiv, slot_neg, slot_pos, T.ag_3, T.ag_71, T.ag_9, T.es_71, T.fo_77_0, T.fo_77_2, T.fo_82_0, T.fo_82_1, T.fo_82_2, T.gf_65, T.ib_3, T.ib_9, T.ii_71, T.ip_3, T.ip_9, T.s8_71, T.sl_71, T.st_71, T.un_71, q0, q1, q9, hp, hv', hlt', hq, yk, yv, yg, c1', list_str]
        refine ⟨⟨D1, _, ⟨hpn1, hpD, hv' ▸ hp, hv' ▸ hr, hsm⟩, h2, h3⟩, .inl ⟨x, hxm, by rw [hs, e1], rfl⟩⟩
      · have c1' : (m = k) = False := eq_false e1
        simp (config := { dsimp := false, maxSteps := 10000000 }) (disch := omega) only [go_sem, reduceIte, Nat.reduceEqDiff, reduceCtorEq, Nat.reduceAdd, Nat.reduceMul, Int.reduceToNat, Int.reduceLE, Int.reduceLT, Int.reduceEq, Int.reduceNe, Nat.reduceLeDiff, Int.reducePow, Nat.reducePow, Nat.reduceLT, Nat.reduceSub, Nat.reduceMod, Nat.reduceDiv, slot_neg, slot_pos, T.ag_3, T.ag_71, T.ag_9, T.es_71, T.fo_77_0, T.fo_77_2, T.fo_82_0, T.fo_82_1, T.fo_82_2, T.gf_65, T.ib_3, T.ib_9, T.ii_71, T.ip_3, T.ip_9, T.s8_71, T.sl_71, T.st_71, T.un_71, q0, q1, q9, hp, hv', hlt', hq, yk, c1', w1, list_str]
        refine ⟨⟨i + 1, hlt, fun j z hj hz => ?_, rfl⟩, by omega⟩
        rcases Nat.lt_or_ge j i with h5 | h5
        · exact hno j z h5 hz
        · obtain rfl : j = i := by omega
          rw [hx] at hz; cases hz
          rw [hs]; intro e; exact e1 (str_inj.1 (by simpa using e))
    · have hlt' : ((i : Int) < (c1.l.length : Int)) = False := eq_false (by omega)
      obtain rfl : i = c1.l.length := by omega
      simp (config := { dsimp := false, maxSteps := 10000000 }) (disch := omega) only [go_sem, reduceIte, Nat.reduceEqDiff, reduceCtorEq, Nat.reduceAdd, Nat.reduceMul, Int.reduceToNat, Int.reduceLE, Int.reduceLT, Int.reduceEq, Int.reduceNe, Nat.reduceLeDiff, Int.reducePow, Nat.reducePow, Nat.reduceLT, Nat.reduceSub, Nat.reduceMod, Nat.reduceDiv, slot_neg, slot_pos, T.ag_3, T.ag_71, T.ag_9, T.es_71, T.fo_77_0, T.fo_77_2, T.fo_82_0, T.fo_82_1, T.fo_82_2, T.gf_65, T.ib_3, T.ib_9, T.ii_71, T.ip_3, T.ip_9, T.s8_71, T.sl_71, T.st_71, T.un_71, q0, q1, q9, hp, hv, hlt']
      refine ⟨⟨D1, _, ⟨hpn1, hpD, hv ▸ hp, hv ▸ hr, hsm⟩, h2, h3⟩, .inr fun x hx => ?_⟩
      obtain ⟨j, hj⟩ := List.getElem?_of_mem hx
      exact hno j x (List.getElem?_eq_some_iff.1 hj).1 hj
theorem dropMin_at {l : List Th} (ha : l.Pairwise fun a b => a.put < b.put) {i : Nat} {x : Th} (hx : l[i]? = some x) (h1 : ∀ (j : Nat) (y : Th), l[j]? = some y → x.goes ≤ y.goes) (h2 : ∀ (j : Nat) (y : Th), j < i → l[j]? = some y → x.goes < y.goes) : dropMin l = l.take i ++ l.drop (i + 1) := by
  obtain ⟨hi, hxi⟩ := List.getElem?_eq_some_iff.1 hx
  have hs : l = l.take i ++ x :: l.drop (i + 1) := by rw [← hxi, List.getElem_cons_drop, List.take_append_drop]
  have hxl := List.mem_of_getElem? hx
  have hmin : ∀ y ∈ l, leT x y := fun y hy => by
    obtain ⟨j, hj⟩ := List.getElem?_of_mem hy
    rcases Nat.lt_or_ge j i with h5 | h5
    · exact .inl (h2 j y h5 hj)
    · have := h1 j y hj
      rcases Nat.eq_or_lt_of_le h5 with e | h6
      · subst e; rw [hx] at hj; cases hj; exact .inr ⟨rfl, Int.le_refl _⟩
      · obtain ⟨hj1, hj2⟩ := List.getElem?_eq_some_iff.1 hj
        have := (List.pairwise_iff_getElem.1 ha) i j hi hj1 h6
        rw [hxi, hj2] at this
        unfold leT; omega
  have hne : ∀ (j : Nat) (y : Th), j ≠ i → l[j]? = some y → ¬ ∀ z ∈ l, leT y z := fun j y hj hy hall => by
    have q1 := hall x hxl
    have q2 := hmin y (List.mem_of_getElem? hy)
    obtain ⟨hj1, hj2⟩ := List.getElem?_eq_some_iff.1 hy
    have e := put_inj ha (List.mem_of_getElem? hy) hxl (by unfold leT at q1 q2; omega)
    rcases Nat.lt_or_ge j i with h5 | h5
    · have := (List.pairwise_iff_getElem.1 ha) j i hj1 hi h5
      rw [hxi, hj2, e] at this; omega
    · have := (List.pairwise_iff_getElem.1 ha) i j hi hj1 (by omega)
      rw [hxi, hj2, e] at this; omega
  have hA : ∀ y ∈ l.take i, (!decide (∀ z ∈ l, leT y z)) = true := fun y hy => by
    obtain ⟨j, hj⟩ := List.getElem?_of_mem hy
    have hji : j < i := by have := (List.getElem?_eq_some_iff.1 hj).1; rw [List.length_take] at this; omega
    rw [List.getElem?_take_of_lt hji] at hj
    rw [decide_eq_false (hne j y (by omega) hj)]; rfl
  have hB : ∀ y ∈ l.drop (i + 1), (!decide (∀ z ∈ l, leT y z)) = true := fun y hy => by
    obtain ⟨j, hj⟩ := List.getElem?_of_mem hy
    rw [List.getElem?_drop] at hj
    rw [decide_eq_false (hne _ y (by omega) hj)]; rfl
  unfold dropMin
  generalize hp : (fun x => !decide (∀ y ∈ l, leT x y)) = f
  have hfx : f x = false := by rw [← hp]; simp only; rw [decide_eq_true hmin]; rfl
  rw [hs, List.filter_append, List.filter_cons, hfx, List.filter_eq_self.2 (fun y hy => by rw [← hp]; exact hA y hy), List.filter_eq_self.2 (fun y hy => by rw [← hp]; exact hB y hy)]
  simp only [Bool.false_eq_true, if_false]
  rw [← hs]
end Ph
