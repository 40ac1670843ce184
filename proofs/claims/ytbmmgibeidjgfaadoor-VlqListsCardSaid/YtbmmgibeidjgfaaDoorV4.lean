import Derived.Test.YtbmmgibeidjgfaaDoorV3
set_option maxRecDepth 100000
set_option maxHeartbeats 4000000
set_option linter.unusedSimpArgs false
set_option linter.unusedVariables false
namespace Ph
open Go Go.Proofs
attribute [local irreducible] Value.cells
attribute [local go_sem ↓] y_move y_assign y_pick y_nil y_bin y_un y_fa y_field y_ext y_ia y_ix y_slice y_build y_mf y_load y_len y_min y_max y_conv y_bs y_mk y_alloc y_box y_store y_clear y_app y_callf y_callt s_move s_assign s_pick s_nil s_bin s_un s_fa s_field s_ext s_ia s_ix s_slice s_conv s_build s_bs s_mf s_alloc s_box s_load s_store s_len s_clear s_min s_max s_app s_call q_call q_move q_assign q_pick q_nil q_bin q_un q_fa q_field q_ext q_ia q_ix q_slice q_conv q_build q_mf q_load q_len q_min q_max l_nil l_move l_assign l_pick l_nilc l_bin l_un l_fa l_field l_ext l_ia l_ix l_slice l_conv l_build l_mf l_load l_len l_min l_max l_call put_eq putN_eq o_nil o_plain o_gate v_nil v_plain v_gate vc_skip vc_region vc_seq vc_cond vc_block vc_loop vc_rf vc_exit vc_ret blk_normal blk_ret blk_exit on_normal on_ret on_exit vc_drawn draw_q s_mk l_bs l_mk l_alloc l_box l_store l_app l_clear pl_done pl_takeS pl_take pl_alt pl_stop one_plain one_gate
attribute [local go_sem] clear_nil clear_sl onAgg_a onTuple_t onFn_f onFn_y onFunc_f c_int c_nil c_sl c_str sl_sl sl_nil sl_str ix_str ix_agg n_nil n_sl n_str app_eq k_nil k_sl len_sl len_str upd_some upd_none ev_tmp ev_const ev_func rd_some gdst_eq otmp_t otmp_c get_put get_alloc next_put next_alloc get_app next_app init_a resV1 resV2 onPtr_ptr onBool_b onInt_i onSlice_s onSome_s onCells_c lett_eq gate_tt gate_tf gate_ff gate_ft gate_dt gate_df also_eq bin un minmax io_none io_some bo_none bo_some partOf List.getElem?_cons_zero List.getElem?_cons_succ List.getElem?_toArray Option.map_some Option.map_none Option.bind_some ne_eq not_true_eq_false not_false_eq_true false_implies true_implies and_true true_and and_self Bool.false_eq_true Nat.zero_add Nat.add_zero List.size_toArray List.length_cons List.length_nil List.map_toArray List.map_cons List.map_nil Array.getD_eq_getD_getElem? Option.getD_some Bool.not_true Bool.not_false Bool.not_eq_true Option.isNone_some Option.isNone_none List.append_toArray List.append_nil List.nil_append List.cons_append decide_true decide_false in_nil in_cons Bool.and_false Bool.and_true Bool.or_false Bool.true_or Bool.false_or get_mask next_mask get_unmask next_unmask ac_move ac_assign ac_pick ac_nil ac_bin ac_un ac_fa ac_field ac_ext ac_ia ac_ix ac_slice ac_build ac_mf ac_call ac_load ac_conv accP_p accS_s accS_n accS_i accS_t fixed_ro fixed_lock fixed_own get_ro next_ro lock_live' lock_cells List.mem_cons List.not_mem_nil or_false false_or or_true true_or and_false false_and IntKind.bits Int.natCast_zero Int.natCast_one size_str data_str list_str mk_str ext_str app_str bytes_str w_byte w_byteu Int.toNat_natCast Int.toNat_zero Int.toNat_one Nat.sub_zero ge_iff_le gt_iff_lt Nat.le_refl Int.le_refl List.drop_zero Int.ofNat_eq_natCast Int.natCast_nonneg Int.sub_zero oc_int oc_bool oc_str oc_ptr oc_sl oc_map oc_func List.set_cons_zero List.set_cons_succ Nat.mul_one List.all_cons List.all_nil Bool.and_self res_nil res_tmp res_cell tup_one tup_two tup_nil fill_nil repl_zero cells_agg List.append_eq List.toList_toArray Nat.zero_mul Nat.one_mul repl_one repl_two onSome_build fill_cons onSome_lit splice_eq cells_int cells_bool cells_str cells_ptr cells_sl cells_map cells_func loadK_n loadK_s load_k storeK_n storeK_s store_k all_arr List.take_zero List.take_succ_cons List.drop_succ_cons List.take_nil List.drop_nil lk_own lk_ro lk_lock lk_lk fixed_lk gate_nt gate_nf gate3_b gate3_u undef Bool.true_and Bool.false_and nx_l nx_r nx_lt put_put resV0
/-! slices.Values, List, All. -/
def nE : Enc Nat := ⟨1, fun n => [.int .u64 (n : Int)], fun _ => rfl, fun _ => rfl⟩
theorem Values1 (h : Heap) (id b : Nat) (v : Value) (l : List Nat) (J : Nat → Heap → Prop) (Jx : Heap → Prop) (hl : l.length < 9223372036854775807) (h0 : J 0 h)
    (hJ : ∀ i H, J i H → ∃ o, H.get b = .live (.cells [v] o) ∧ RowIn nE H v l)
    (hY : ∀ (i : Nat) (x : Nat) (H : Heap), l[i]? = some x → J i H → @YieldH Tryd.prog id #[.int .u64 x] H ⟨fun u H' => (u = .bool true ∧ J (i + 1) H') ∨ (u = .bool false ∧ Jx H')⟩) :
    @CallsH Tryd.prog 10 #[.func (.yield id) #[] #[], .pointer (some ⟨b, 0, none⟩)] h ⟨fun u H => J l.length H ∨ Jx H⟩ := by
  obtain ⟨o, hb, hr⟩ := hJ 0 h h0
  obtain ⟨A, st, hv⟩ := hr.form
  (refine calls_of_vc [] hm Tryd.func10 rfl (ts := []) rfl (by kernel_rfl) (by simp) ?_; simp (config := { dsimp := false }) only [go_sem, reduceIte, Nat.reduceEqDiff, reduceCtorEq, Nat.reduceAdd, Nat.reduceMul, Int.reduceToNat, Int.reduceLE, Int.reduceLT, Int.reduceEq, Int.reduceNe, Nat.reduceLeDiff, Int.reducePow, Nat.reducePow, Nat.reduceLT, Nat.reduceSub, Nat.reduceMod, Nat.reduceDiv, T.ag_22, T.ag_27, T.es_22, T.ib_3, T.ii_22, T.ip_3, T.s8_22, T.sl_22, T.st_22, T.un_22, init_a, hb, hv])
  refine loop_intro [] hm (fun r H => ∃ i : Nat, i ≤ l.length ∧ J i H ∧ r 0 = .func (.yield id) #[] #[] ∧ r 5 = v ∧ r 6 = .int .i64 l.length ∧ r 7 = .int .i64 i) (fun r _ => match r 7 with | .int _ i => l.length - i.toNat | _ => 0) ?_ ?_
  · exact ⟨0, by omega, h0, by simp [upd, initR], by simp [upd, hv], by simp [upd], by simp [upd]⟩
  · rintro r H ⟨i, hi, hJi, q0, q5, q6, q7⟩
    obtain ⟨o, hb, hr⟩ := hJ i H hJi
    by_cases hlt : i < l.length
    · have hlt' : ((i : Int) < (l.length : Int)) = True := eq_true (by omega)
      have hx : l[i]? = some l[i] := List.getElem?_eq_getElem hlt
      rcases hr with ⟨_, hnil⟩ | ⟨q, off, vs, o2, hv', hq, hR⟩
      · rw [hnil] at hlt; simp at hlt
      · have y1 : vs[off + i]? = some (.int .u64 (l[i] : Int)) := by
          have := hR.cell hx (j := 0) (by decide)
          simpa [nE] using this
        have hcall := hY i l[i] H hx hJi
        have w1 : IntKind.i64.wrap ((i : Int) + 1) = ((i + 1 : Nat) : Int) := by rw [i64wrap] <;> omega
        generalize l[i] = x at hx y1 hcall
        have hK : nE.k = 1 := rfl
        rw [hv'] at q5
        simp (config := { dsimp := false }) only [go_sem, reduceIte, Nat.reduceEqDiff, reduceCtorEq, Nat.reduceAdd, Nat.reduceMul, Int.reduceToNat, Int.reduceLE, Int.reduceLT, Int.reduceEq, Int.reduceNe, Nat.reduceLeDiff, Int.reducePow, Nat.reducePow, Nat.reduceLT, Nat.reduceSub, Nat.reduceMod, Nat.reduceDiv, T.ag_22, T.ag_27, T.es_22, T.ib_3, T.ii_22, T.ip_3, T.s8_22, T.sl_22, T.st_22, T.un_22, q0, q5, q6, q7, hq, y1, hlt', hK]
        refine hcall.mono fun u H' hu => ?_
        rcases hu with ⟨rfl, hJ'⟩ | ⟨rfl, hX⟩
        · simp (config := { dsimp := false }) only [go_sem, reduceIte, Nat.reduceEqDiff, reduceCtorEq, Nat.reduceAdd, Nat.reduceMul, Int.reduceToNat, Int.reduceLE, Int.reduceLT, Int.reduceEq, Int.reduceNe, Nat.reduceLeDiff, Int.reducePow, Nat.reducePow, Nat.reduceLT, Nat.reduceSub, Nat.reduceMod, Nat.reduceDiv, T.ag_22, T.ag_27, T.es_22, T.ib_3, T.ii_22, T.ip_3, T.s8_22, T.sl_22, T.st_22, T.un_22, q0, q5, q6, q7, w1, hv']
          exact ⟨⟨i + 1, hlt, hJ', rfl⟩, by omega⟩
        · simp (config := { dsimp := false }) only [go_sem, reduceIte, Nat.reduceEqDiff, reduceCtorEq, Nat.reduceAdd, Nat.reduceMul, Int.reduceToNat, Int.reduceLE, Int.reduceLT, Int.reduceEq, Int.reduceNe, Nat.reduceLeDiff, Int.reducePow, Nat.reducePow, Nat.reduceLT, Nat.reduceSub, Nat.reduceMod, Nat.reduceDiv, T.ag_22, T.ag_27, T.es_22, T.ib_3, T.ii_22, T.ip_3, T.s8_22, T.sl_22, T.st_22, T.un_22, q0, q5, q6, q7]
          exact .inr hX
    · have hlt' : ((i : Int) < (l.length : Int)) = False := eq_false (by omega)
      simp (config := { dsimp := false }) only [go_sem, reduceIte, Nat.reduceEqDiff, reduceCtorEq, Nat.reduceAdd, Nat.reduceMul, Int.reduceToNat, Int.reduceLE, Int.reduceLT, Int.reduceEq, Int.reduceNe, Nat.reduceLeDiff, Int.reducePow, Nat.reducePow, Nat.reduceLT, Nat.reduceSub, Nat.reduceMod, Nat.reduceDiv, T.ag_22, T.ag_27, T.es_22, T.ib_3, T.ii_22, T.ip_3, T.s8_22, T.sl_22, T.st_22, T.un_22, q0, q5, q6, q7, hlt']
      obtain rfl : i = l.length := by omega
      exact .inl hJi
theorem Values_ph (h : Heap) (v : Value) (l : List Nat) (hr : RowIn nE h v l) : @CallsH Tryd.prog 5 #[v] h ⟨fun u H => u = .func (.func 10) #[] #[.pointer (some ⟨h.next, 0, none⟩)] ∧ H = h.alloc (.cells [v] .own)⟩ := by
  have h1 := hr.one
  (refine calls_of_vc [] hm Tryd.func5 rfl (ts := [2]) rfl (by kernel_rfl) (by simp) ?_; simp (config := { dsimp := false }) only [go_sem, reduceIte, Nat.reduceEqDiff, reduceCtorEq, Nat.reduceAdd, Nat.reduceMul, Int.reduceToNat, Int.reduceLE, Int.reduceLT, Int.reduceEq, Int.reduceNe, Nat.reduceLeDiff, Int.reducePow, Nat.reducePow, Nat.reduceLT, Nat.reduceSub, Nat.reduceMod, Nat.reduceDiv, init_a, h1.1, h1.2])
theorem ValuesS (b : Nat) (v : Value) (l : List Nat) (hl : l.length < 9223372036854775807) : SeqH Tryd.prog 10 #[.pointer (some ⟨b, 0, none⟩)] (l.map fun n : Nat => #[.int .u64 (n : Int)]) (fun H => ∃ o, H.get b = .live (.cells [v] o) ∧ RowIn nE H v l) :=
  fun id J Jx h h0 hJ _ hY => by
    rw [List.length_map]
    refine Values1 h id b v l J Jx hl h0 hJ fun i x H hx hJi => hY i _ H ?_ hJi
    rw [List.getElem?_map, hx]; rfl
theorem take_next {α : Type} {l : List α} {i : Nat} {x : α} (h : l[i]? = some x) : l.take (i + 1) = l.take i ++ [x] := by
  obtain ⟨hi, rfl⟩ := List.getElem?_eq_some_iff.1 h
  exact List.take_succ_eq_append_getElem hi
def listB : Nat := 4611686018427387904
theorem List_ph (h : Heap) (b : Nat) (o : Own) (v : Value) (l : List Nat) (hb : h.get b = .live (.cells [v] o)) (hbn : b < h.next) (hr : RowIn nE h v l) (hlt : ∀ A n st, v = .slice (some A) n st → A.block < h.next) (hl : l.length ≤ 60) (hn : ∀ n ∈ l, n < 18446744073709551616) :
    @CallsH Tryd.prog 4 #[.func (.func 10) #[] #[.pointer (some ⟨b, 0, none⟩)]] h ⟨fun u H => Upd h H [] ∧ (((∀ n ∈ l, n < listB) ∧ ∃ v D, u = .tuple #[v, .int .i64 0] ∧ OwnRow u8E H v D (catS l) ∧ ∀ d ∈ D, h.next ≤ d) ∨ ((∃ n ∈ l, listB ≤ n) ∧ u = .tuple #[.slice none 0 0, .int .i64 5]))⟩ := by
  (refine calls_of_codeR (rs := [.cell 2 23, .cell 3 24]) Tryd.func4 rfl rfl (by simp) ?_)
  (refine CodeH.seq' (CodeH.of_vc [] hm (by kernel_rfl) ?_); simp (config := { dsimp := false, maxSteps := 10000000 }) (disch := omega) only [go_sem, reduceIte, Nat.reduceEqDiff, reduceCtorEq, Nat.reduceAdd, Nat.reduceMul, Int.reduceToNat, Int.reduceLE, Int.reduceLT, Int.reduceEq, Int.reduceNe, Nat.reduceLeDiff, Int.reducePow, Nat.reducePow, Nat.reduceLT, Nat.reduceSub, Nat.reduceMod, Nat.reduceDiv, slot_neg, slot_pos, T.ag_23, T.ag_24, T.eb_23, T.ez_23, T.gf_9, T.ib_24, T.ii_23, T.ip_24, T.s8_23, T.sl_23, T.st_23, T.un_23, T.zo_23, T.zo_24, init_a])
  (refine CodeH.seq' (CodeH.of_vc [] hm (by kernel_rfl) ?_); simp (config := { dsimp := false, maxSteps := 10000000 }) (disch := omega) only [go_sem, reduceIte, Nat.reduceEqDiff, reduceCtorEq, Nat.reduceAdd, Nat.reduceMul, Int.reduceToNat, Int.reduceLE, Int.reduceLT, Int.reduceEq, Int.reduceNe, Nat.reduceLeDiff, Int.reducePow, Nat.reducePow, Nat.reduceLT, Nat.reduceSub, Nat.reduceMod, Nat.reduceDiv, slot_neg, slot_pos, T.ag_23, T.ag_24, T.eb_23, T.ez_23, T.gf_9, T.ib_24, T.ii_23, T.ip_24, T.s8_23, T.sl_23, T.st_23, T.un_23, T.zo_23, T.zo_24, init_a])
  (refine CodeH.seq' (CodeH.of_vc [] hm (by kernel_rfl) ?_); simp (config := { dsimp := false, maxSteps := 10000000 }) (disch := omega) only [go_sem, reduceIte, Nat.reduceEqDiff, reduceCtorEq, Nat.reduceAdd, Nat.reduceMul, Int.reduceToNat, Int.reduceLE, Int.reduceLT, Int.reduceEq, Int.reduceNe, Nat.reduceLeDiff, Int.reducePow, Nat.reducePow, Nat.reduceLT, Nat.reduceSub, Nat.reduceMod, Nat.reduceDiv, slot_neg, slot_pos, T.ag_23, T.ag_24, T.eb_23, T.ez_23, T.gf_9, T.ib_24, T.ii_23, T.ip_24, T.s8_23, T.sl_23, T.st_23, T.un_23, T.zo_23, T.zo_24, init_a])
  obtain ⟨H1, hH1⟩ : ∃ H1, Heap.alloc (Heap.alloc (Heap.alloc h (.cells [.slice none 0 0] .own)) (.cells [.int .i64 0] .own)) (.cells [.slice none 0 0] .own) = H1 := ⟨_, rfl⟩
  rw [hH1]
  have g0 : H1.get h.next = .live (.cells [.slice none 0 0] .own) := by rw [← hH1]; simp (config := { dsimp := false }) (disch := omega) only [get_alloc, get_put, get_app, next_alloc, next_put, next_app, get_mask, get_unmask, next_mask, next_unmask, List.mem_cons, List.not_mem_nil, or_false, true_or, or_true, false_or, and_true, true_and, and_false, false_and, not_true_eq_false, not_false_eq_true, ne_eq, reduceIte, slot_neg, slot_pos]
  have g1 : H1.get (h.next + 1) = .live (.cells [.int .i64 0] .own) := by rw [← hH1]; simp (config := { dsimp := false }) (disch := omega) only [get_alloc, get_put, get_app, next_alloc, next_put, next_app, get_mask, get_unmask, next_mask, next_unmask, List.mem_cons, List.not_mem_nil, or_false, true_or, or_true, false_or, and_true, true_and, and_false, false_and, not_true_eq_false, not_false_eq_true, ne_eq, reduceIte, slot_neg, slot_pos]
  have g2 : H1.get (h.next + 2) = .live (.cells [.slice none 0 0] .own) := by rw [← hH1]; simp (config := { dsimp := false }) (disch := omega) only [get_alloc, get_put, get_app, next_alloc, next_put, next_app, get_mask, get_unmask, next_mask, next_unmask, List.mem_cons, List.not_mem_nil, or_false, true_or, or_true, false_or, and_true, true_and, and_false, false_and, not_true_eq_false, not_false_eq_true, ne_eq, reduceIte, slot_neg, slot_pos]
  have hn1 : H1.next = h.next + 3 := by rw [← hH1]; rfl
  have hU1 : Upd h H1 [] := by rw [← hH1]; exact ((Upd.alloc _ _ _).allocs).allocs
  clear hH1
  refine RF.gen (fun r => r 2 = .pointer (some ⟨h.next, 0, none⟩) ∧ r 3 = .pointer (some ⟨h.next + 1, 0, none⟩) ∧ r 4 = .pointer (some ⟨h.next + 2, 0, none⟩) ∧ r 8 = .func (.func 10) #[] #[.pointer (some ⟨b, 0, none⟩)]) ⟨by simp [upd], by simp [upd], by simp [upd], by simp [upd, initR]⟩ fun r ⟨q2, q3, q4, q8⟩ => ?_
  refine range_over q8 (by kernel_rfl) (ValuesS b v l (by omega)) (fun args ha => ?_) (fun i H => h.next + 4 ≤ H.next ∧ H.get h.next = .live (.cells [.slice none 0 0] .own) ∧ H.get (h.next + 1) = .live (.cells [.int .i64 0] .own) ∧ (∃ vo D, H.get (h.next + 2) = .live (.cells [vo] .own) ∧ OwnRow u8E H vo D (catS (l.take i)) ∧ ∀ d ∈ D, h.next + 4 ≤ d) ∧ (∀ n ∈ l.take i, n < listB) ∧ Upd h H []) ?_ ?_ ?_ ?_ ?_ ?_
  · obtain ⟨i, _, rfl⟩ := List.mem_map.1 ha; rfl
  · intro H hu1 hn2
    refine ⟨by omega, (hu1.2 _ (by omega) (by simp)).trans g0, (hu1.2 _ (by omega) (by simp)).trans g1, ⟨_, [], (hu1.2 _ (by omega) (by simp)).trans g2, OwnRow.nil _, by simp⟩, by simp, hU1.trans hu1 (by simp)⟩
  · rintro i H ⟨_, _, _, _, _, hu⟩
    exact ⟨_, (hu.2 b hbn (by simp)).trans hb, hr.upd fun A n st e => hu.2 _ (hlt A n st e) (by simp)⟩
  · rintro i H H' ⟨a1, a2, a3, ⟨vo, D, a4, a5, a6⟩, a7, a8⟩ hu
    exact ⟨Nat.le_trans a1 hu.1, (hu.2 _ (by omega) (by simp)).trans a2, (hu.2 _ (by omega) (by simp)).trans a3, ⟨vo, D, (hu.2 _ (by omega) (by simp)).trans a4, a5.upd hu (by simp), a6⟩, a7, a8.trans hu (by simp)⟩
  · rintro i H x ⟨a1, a2, a3, ⟨vo, D, a4, a5, a6⟩, a7, a8⟩
    rw [hn1]
    exact ⟨a1, by rw [get_put, if_neg (by omega)]; exact a2, by rw [get_put, if_neg (by omega)]; exact a3, ⟨vo, D, by rw [get_put, if_neg (by omega)]; exact a4, a5.keep (Nat.le_refl _) fun d hd => by rw [get_put, if_neg (by have := a6 d hd; omega)], a6⟩, a7, a8.put (.inr (by omega))⟩
  · rintro H x ⟨a1, a2, a3, ⟨vo, D, a4, a5, a6⟩, a7, a8⟩
    rw [List.length_map, List.take_length] at a5 a7
    rw [hn1]
    obtain ⟨Hx, hHx⟩ : ∃ Hx, H.put (h.next + 3) x = Hx := ⟨_, rfl⟩
    rw [hHx]
    have e2 : Hx.get h.next = .live (.cells [.slice none 0 0] .own) := by rw [← hHx, get_put, if_neg (by omega)]; exact a2
    have e3 : Hx.get (h.next + 1) = .live (.cells [.int .i64 0] .own) := by rw [← hHx, get_put, if_neg (by omega)]; exact a3
    have e4 : Hx.get (h.next + 2) = .live (.cells [vo] .own) := by rw [← hHx, get_put, if_neg (by omega)]; exact a4
    have e5 : OwnRow u8E Hx vo D (catS l) := a5.keep (by rw [← hHx, next_put]; exact Nat.le_refl _) fun d hd => by rw [← hHx, get_put, if_neg (by have := a6 d hd; omega)]
    have e8 : Upd h Hx [] := by rw [← hHx]; exact a8.put (.inr (by omega))
    have e9 : h.next + 4 ≤ Hx.next := by rw [← hHx, next_put]; exact a1
    clear hHx
    have ho := e5.row.one
    simp (config := { dsimp := false, maxSteps := 10000000 }) (disch := omega) only [go_sem, reduceIte, Nat.reduceEqDiff, reduceCtorEq, Nat.reduceAdd, Nat.reduceMul, Int.reduceToNat, Int.reduceLE, Int.reduceLT, Int.reduceEq, Int.reduceNe, Nat.reduceLeDiff, Int.reducePow, Nat.reducePow, Nat.reduceLT, Nat.reduceSub, Nat.reduceMod, Nat.reduceDiv, slot_neg, slot_pos, T.ag_23, T.ag_24, T.eb_23, T.ez_23, T.gf_9, T.ib_24, T.ii_23, T.ip_24, T.s8_23, T.sl_23, T.st_23, T.un_23, T.zo_23, T.zo_24]
    (refine CodeH.of_vc [] hm (by kernel_rfl) ?_; simp (config := { dsimp := false, maxSteps := 10000000 }) (disch := omega) only [go_sem, reduceIte, Nat.reduceEqDiff, reduceCtorEq, Nat.reduceAdd, Nat.reduceMul, Int.reduceToNat, Int.reduceLE, Int.reduceLT, Int.reduceEq, Int.reduceNe, Nat.reduceLeDiff, Int.reducePow, Nat.reducePow, Nat.reduceLT, Nat.reduceSub, Nat.reduceMod, Nat.reduceDiv, slot_neg, slot_pos, T.ag_23, T.ag_24, T.eb_23, T.ez_23, T.gf_9, T.ib_24, T.ii_23, T.ip_24, T.s8_23, T.sl_23, T.st_23, T.un_23, T.zo_23, T.zo_24, init_a, q2, q3, q4, e2, e3, e4, ho.1, ho.2])
    refine ⟨(e8.put (.inr (Nat.le_refl _))).put (.inr (by omega)), .inl ⟨a7, vo, D, rfl, e5.keep (by simp only [next_put]; exact Nat.le_refl _) fun d hd => ?_, fun d hd => by have := a6 d hd; omega⟩⟩
    have := a6 d hd
    rw [get_put, if_neg (by omega), get_put, if_neg (by omega)]
  · rintro n i args H B k1 k2 hx ⟨a1, a2, a3, ⟨vo, D, a4, a5, a6⟩, a7, a8⟩ hB hlt2
    have hi : i < l.length := by
      have := (List.getElem?_eq_some_iff.1 hx).1; simpa using this
    have hxx : l[i]? = some l[i] := List.getElem?_eq_getElem hi
    rw [List.getElem?_map, hxx] at hx
    have hnx := hn l[i] (List.getElem_mem _)
    have hmem : l[i] ∈ l := List.getElem_mem _
    generalize l[i] = y at hx hxx hnx hmem
    cases hx
    rw [show ∀ a : Value, setP r (#[9] : Array Nat).toList (#[a] : Array Value).toList = upd r (some 9) a from fun _ => rfl]
    refine CodeH.of_vc [] hm k1 ?_
    simp (config := { dsimp := false, maxSteps := 10000000 }) (disch := omega) only [go_sem, reduceIte, Nat.reduceEqDiff, reduceCtorEq, Nat.reduceAdd, Nat.reduceMul, Int.reduceToNat, Int.reduceLE, Int.reduceLT, Int.reduceEq, Int.reduceNe, Nat.reduceLeDiff, Int.reducePow, Nat.reducePow, Nat.reduceLT, Nat.reduceSub, Nat.reduceMod, Nat.reduceDiv, slot_neg, slot_pos, T.ag_23, T.ag_24, T.eb_23, T.ez_23, T.gf_9, T.ib_24, T.ii_23, T.ip_24, T.s8_23, T.sl_23, T.st_23, T.un_23, T.zo_23, T.zo_24, hB]
    rw [hn1] at hB hlt2 ⊢
    refine fun B' => CodeH.of_vc [] hm k2 ?_
    obtain ⟨Hb, hHb⟩ : ∃ Hb, H.put (h.next + 3) B' = Hb := ⟨_, rfl⟩
    rw [hHb]
    have e2 : Hb.get h.next = .live (.cells [.slice none 0 0] .own) := by rw [← hHb, get_put, if_neg (by omega)]; exact a2
    have e3 : Hb.get (h.next + 1) = .live (.cells [.int .i64 0] .own) := by rw [← hHb, get_put, if_neg (by omega)]; exact a3
    have e4 : Hb.get (h.next + 2) = .live (.cells [vo] .own) := by rw [← hHb, get_put, if_neg (by omega)]; exact a4
    have eB : Hb.get (h.next + 3) = B' := by rw [← hHb, get_put, if_pos rfl]
    have e5 : OwnRow u8E Hb vo D (catS (l.take i)) := a5.keep (by rw [← hHb, next_put]; exact Nat.le_refl _) fun d hd => by rw [← hHb, get_put, if_neg (by have := a6 d hd; omega)]
    have e8 : Upd h Hb [] := by rw [← hHb]; exact a8.put (.inr (by omega))
    have e9 : h.next + 4 ≤ Hb.next := by rw [← hHb, next_put]; exact a1
    clear hHb
    simp (config := { dsimp := false, maxSteps := 10000000 }) (disch := omega) only [go_sem, reduceIte, Nat.reduceEqDiff, reduceCtorEq, Nat.reduceAdd, Nat.reduceMul, Int.reduceToNat, Int.reduceLE, Int.reduceLT, Int.reduceEq, Int.reduceNe, Nat.reduceLeDiff, Int.reducePow, Nat.reducePow, Nat.reduceLT, Nat.reduceSub, Nat.reduceMod, Nat.reduceDiv, slot_neg, slot_pos, T.ag_23, T.ag_24, T.eb_23, T.ez_23, T.gf_9, T.ib_24, T.ii_23, T.ip_24, T.s8_23, T.sl_23, T.st_23, T.un_23, T.zo_23, T.zo_24]
    refine (Put_u64 Hb y hnx).mono fun u H2 hu => ?_
    have htn := take_next hxx
    rcases hu with ⟨hsm, v1, D1, f1, f2, f3, f4⟩ | ⟨hbig, f1, f4⟩
    · subst f1
      have m2 := (f4.2 _ (by omega) (by simp)).trans e2
      have m3 := (f4.2 _ (by omega) (by simp)).trans e3
      have m4 := (f4.2 _ (by omega) (by simp)).trans e4
      have mB := (f4.2 _ (by omega) (by simp)).trans eB
      have m5 := e5.upd f4 (by simp)
      have n2 := f4.1
      have ho := m5.row.one
      simp (config := { dsimp := false, maxSteps := 10000000 }) (disch := omega) only [go_sem, reduceIte, Nat.reduceEqDiff, reduceCtorEq, Nat.reduceAdd, Nat.reduceMul, Int.reduceToNat, Int.reduceLE, Int.reduceLT, Int.reduceEq, Int.reduceNe, Nat.reduceLeDiff, Int.reducePow, Nat.reducePow, Nat.reduceLT, Nat.reduceSub, Nat.reduceMod, Nat.reduceDiv, slot_neg, slot_pos, T.ag_23, T.ag_24, T.eb_23, T.ez_23, T.gf_9, T.ib_24, T.ii_23, T.ip_24, T.s8_23, T.sl_23, T.st_23, T.un_23, T.zo_23, T.zo_24, q2, q3, q4, m4, ho.1, ho.2]
      refine news_row (l := vputS y (vsz y)) (by kernel_rfl) f2.row rfl ?_
      simp (config := { dsimp := false, maxSteps := 10000000 }) (disch := omega) only [go_sem, reduceIte, Nat.reduceEqDiff, reduceCtorEq, Nat.reduceAdd, Nat.reduceMul, Int.reduceToNat, Int.reduceLE, Int.reduceLT, Int.reduceEq, Int.reduceNe, Nat.reduceLeDiff, Int.reducePow, Nat.reducePow, Nat.reduceLT, Nat.reduceSub, Nat.reduceMod, Nat.reduceDiv, slot_neg, slot_pos, T.ag_23, T.ag_24, T.eb_23, T.ez_23, T.gf_9, T.ib_24, T.ii_23, T.ip_24, T.s8_23, T.sl_23, T.st_23, T.un_23, T.zo_23, T.zo_24, q2, q3, q4, m4]
      have hcl := cat_len (l.take i)
      have htl : (l.take i).length ≤ 60 := by rw [List.length_take]; omega
      have hvl := vputS_len y (vsz y)
      have hvz := vsz_le y
      refine ⟨flat_one _, app_own (E := u8E) (ns := vputS y (vsz y)) m5 rfl rfl rfl (by omega) fun u3 H3 D3 hO3 hU3 hD3 => ?_⟩
      have n3 := hU3.1
      have hDk : ∀ k, k < h.next + 4 → k ∉ D := fun k hk hd => by have := a6 k hd; omega
      have k2' := (hU3.2 h.next (by omega) (hDk _ (by omega))).trans m2
      have k3' := (hU3.2 (h.next + 1) (by omega) (hDk _ (by omega))).trans m3
      have k4' := (hU3.2 (h.next + 2) (by omega) (hDk _ (by omega))).trans m4
      have kB' := (hU3.2 (h.next + 3) (by omega) (hDk _ (by omega))).trans mB
      have hou := hO3.row.one
      simp (config := { dsimp := false, maxSteps := 10000000 }) (disch := omega) only [go_sem, reduceIte, Nat.reduceEqDiff, reduceCtorEq, Nat.reduceAdd, Nat.reduceMul, Int.reduceToNat, Int.reduceLE, Int.reduceLT, Int.reduceEq, Int.reduceNe, Nat.reduceLeDiff, Int.reducePow, Nat.reducePow, Nat.reduceLT, Nat.reduceSub, Nat.reduceMod, Nat.reduceDiv, slot_neg, slot_pos, T.ag_23, T.ag_24, T.eb_23, T.ez_23, T.gf_9, T.ib_24, T.ii_23, T.ip_24, T.s8_23, T.sl_23, T.st_23, T.un_23, T.zo_23, T.zo_24, q2, q3, q4, k4', hou.1, hou.2]
      have hD4 : ∀ d ∈ D3, h.next + 4 ≤ d := fun d hd => by
        rcases hD3 d hd with h1 | h1
        · exact a6 d h1
        · omega
      refine ⟨kB', by omega, by omega, k2', k3', ⟨u3, D3, rfl, ?_, hD4⟩, fun z hz => ?_, ((e8.trans f4 (by simp)).trans hU3 fun d hd => .inr (by have := a6 d hd; omega)).put (.inr (by omega))⟩
      · rw [htn, cat_snoc]
        exact hO3.keep (by rw [next_put]; exact Nat.le_refl _) fun d hd => by rw [get_put, if_neg (by have := hD4 d hd; omega)]
      · rw [htn] at hz
        rcases List.mem_append.1 hz with h1 | h1
        · exact a7 z h1
        · rw [List.mem_singleton.1 h1]; exact hsm
    · subst f1
      have m2 := (f4.2 _ (by omega) (by simp)).trans e2
      have m3 := (f4.2 _ (by omega) (by simp)).trans e3
      have mB := (f4.2 _ (by omega) (by simp)).trans eB
      simp (config := { dsimp := false, maxSteps := 10000000 }) (disch := omega) only [go_sem, reduceIte, Nat.reduceEqDiff, reduceCtorEq, Nat.reduceAdd, Nat.reduceMul, Int.reduceToNat, Int.reduceLE, Int.reduceLT, Int.reduceEq, Int.reduceNe, Nat.reduceLeDiff, Int.reducePow, Nat.reducePow, Nat.reduceLT, Nat.reduceSub, Nat.reduceMod, Nat.reduceDiv, slot_neg, slot_pos, T.ag_23, T.ag_24, T.eb_23, T.ez_23, T.gf_9, T.ib_24, T.ii_23, T.ip_24, T.s8_23, T.sl_23, T.st_23, T.un_23, T.zo_23, T.zo_24, q2, q3, q4, m2, m3]
      exact ⟨mB, fun x => ⟨(((e8.trans f4 (by simp)).put (.inr (Nat.le_refl _))).put (.inr (by omega))).put (.inr (by omega)), .inr ⟨y, hmem, hbig⟩⟩⟩
theorem All1 (h : Heap) (id b : Nat) (v : Value) (l : List Nat) (J : Nat → Heap → Prop) (Jx : Heap → Prop) (hl : l.length ≤ 60) (hn : ∀ n ∈ l, n < listB) (h0 : J 0 h)
    (hJ : ∀ i H, J i H → ∃ o, H.get b = .live (.cells [v] o) ∧ RowIn u8E H v (catS l))
    (hY : ∀ (i : Nat) (x : Nat) (H : Heap), l[i]? = some x → J i H → @YieldH Tryd.prog id #[.int .i64 ((catS (l.take i)).length : Nat), .int .u64 x] H ⟨fun u H' => (u = .bool true ∧ J (i + 1) H') ∨ (u = .bool false ∧ Jx H')⟩) :
    @CallsH Tryd.prog 14 #[.func (.yield id) #[] #[], .pointer (some ⟨b, 0, none⟩)] h ⟨fun u H => J l.length H ∨ Jx H⟩ := by
  (refine calls_of_vc [] hm Tryd.func14 rfl (ts := []) rfl (by kernel_rfl) (by simp) ?_; simp (config := { dsimp := false }) only [go_sem, reduceIte, Nat.reduceEqDiff, reduceCtorEq, Nat.reduceAdd, Nat.reduceMul, Int.reduceToNat, Int.reduceLE, Int.reduceLT, Int.reduceEq, Int.reduceNe, Nat.reduceLeDiff, Int.reducePow, Nat.reducePow, Nat.reduceLT, Nat.reduceSub, Nat.reduceMod, Nat.reduceDiv, T.ag_23, T.es_23, T.gf_15, T.ib_24, T.ib_3, T.ii_23, T.ip_24, T.ip_3, T.s8_23, T.sl_23, T.st_23, T.un_23, init_a])
  refine loop_intro [] hm (fun r H => ∃ i : Nat, i ≤ l.length ∧ J i H ∧ r 0 = .func (.yield id) #[] #[] ∧ r 1 = .pointer (some ⟨b, 0, none⟩) ∧ r 3 = .int .i64 ((catS (l.take i)).length : Nat)) (fun r _ => match r 3 with | .int _ i => (catS l).length + 1 - i.toNat | _ => 0) ?_ ?_
  · exact ⟨0, by omega, h0, by simp [upd, initR], by simp [upd, initR], by simp [upd, catS]⟩
  · rintro r H ⟨i, hi, hJi, q0, q1, q3⟩
    obtain ⟨o, hb, hr⟩ := hJ i H hJi
    have hcl := cat_len l
    have hpl : (catS (l.take i)).length ≤ (catS l).length := by
      have e : catS l = catS (l.take i) ++ catS (l.drop i) := by
        unfold catS; rw [← List.flatMap_append, List.take_append_drop]
      rw [e, List.length_append]; omega
    obtain ⟨P, hP⟩ : ∃ P, (catS (l.take i)).length = P := ⟨_, rfl⟩
    rw [hP] at q3 hpl
    have key : ∀ (w : Value), SlB H w ((catS l).drop P) → @CallsH Tryd.prog 15 #[w] H.ro ⟨fun u _ => u = .tuple #[.int .u64 (vget ((catS l).drop P)).1, .int .i64 (vget ((catS l).drop P)).2.1, .int .i64 (vget ((catS l).drop P)).2.2]⟩ := fun w hw => VGet_ph _ (by rw [List.length_drop]; omega) H.ro w hw.ro
    rcases hr.slb with ⟨hv, hnil⟩ | ⟨q, off, vs, o2, hv, hq, ht, hbd⟩
    · have hP0 : P = 0 := by rw [hnil] at hpl; simpa using hpl
      have hie : i = l.length := by
        rcases Nat.lt_or_ge i l.length with h1 | h1
        · have h2 := cat_drop (List.getElem?_eq_getElem h1)
          rw [hnil, List.drop_nil] at h2
          have h3 := congrArg List.length h2
          rw [List.length_append, vputS_len] at h3
          have := vsz_le l[i]
          simp at h3; omega
        · omega
      rw [hv] at hb
      subst hP0
      simp (config := { dsimp := false, maxSteps := 10000000 }) (disch := omega) only [go_sem, reduceIte, Nat.reduceEqDiff, reduceCtorEq, Nat.reduceAdd, Nat.reduceMul, Int.reduceToNat, Int.reduceLE, Int.reduceLT, Int.reduceEq, Int.reduceNe, Nat.reduceLeDiff, Int.reducePow, Nat.reducePow, Nat.reduceLT, Nat.reduceSub, Nat.reduceMod, Nat.reduceDiv, slot_neg, slot_pos, T.ag_23, T.es_23, T.gf_15, T.ib_24, T.ib_3, T.ii_23, T.ip_24, T.ip_3, T.s8_23, T.sl_23, T.st_23, T.un_23, q0, q1, q3, hb]
      have hk := key (.slice none 0 0) (.inl ⟨rfl, by rw [hnil]; rfl⟩)
      rw [hnil] at hk
      refine CallsH.pure _ rfl hk ?_
      simp (config := { dsimp := false, maxSteps := 10000000 }) (disch := omega) only [go_sem, reduceIte, Nat.reduceEqDiff, reduceCtorEq, Nat.reduceAdd, Nat.reduceMul, Int.reduceToNat, Int.reduceLE, Int.reduceLT, Int.reduceEq, Int.reduceNe, Nat.reduceLeDiff, Int.reducePow, Nat.reducePow, Nat.reduceLT, Nat.reduceSub, Nat.reduceMod, Nat.reduceDiv, slot_neg, slot_pos, T.ag_23, T.es_23, T.gf_15, T.ib_24, T.ib_3, T.ii_23, T.ip_24, T.ip_3, T.s8_23, T.sl_23, T.st_23, T.un_23, q0, q1, q3, hb, vget]
      exact .inl (hie ▸ hJi)
    · rw [hv] at hb
      have c1 : ((P : Int) ≤ ((catS l).length : Int)) = True := eq_true (by omega)
      simp (config := { dsimp := false, maxSteps := 10000000 }) (disch := omega) only [go_sem, reduceIte, Nat.reduceEqDiff, reduceCtorEq, Nat.reduceAdd, Nat.reduceMul, Int.reduceToNat, Int.reduceLE, Int.reduceLT, Int.reduceEq, Int.reduceNe, Nat.reduceLeDiff, Int.reducePow, Nat.reducePow, Nat.reduceLT, Nat.reduceSub, Nat.reduceMod, Nat.reduceDiv, slot_neg, slot_pos, T.ag_23, T.es_23, T.gf_15, T.ib_24, T.ib_3, T.ii_23, T.ip_24, T.ip_3, T.s8_23, T.sl_23, T.st_23, T.un_23, q0, q1, q3, hb, c1]
      have hw : SlB H (.slice (some ⟨q, off + P, none⟩) (((catS l).length : Int) - (P : Int)).toNat 1) ((catS l).drop P) := by
        refine .inr ⟨q, off + P, vs, o2, by rw [List.length_drop]; congr 1; omega, hq, ?_, by rw [List.length_drop]; omega⟩
        rw [List.length_drop]
        have h5 : ((vs.drop off).take (catS l).length).drop P = (bc (catS l)).drop P := by rw [ht]
        rw [List.drop_take, List.drop_drop] at h5
        rw [h5]; unfold bc; rw [List.map_drop]
      have hk := key _ hw
      by_cases hil : i < l.length
      · have hx : l[i]? = some l[i] := List.getElem?_eq_getElem hil
        have hcall := hY i l[i] H hx hJi
        have hsm := hn l[i] (List.getElem_mem _)
        have htn := take_next hx
        have hcd := cat_drop hx
        generalize l[i] = x at hx hcall hsm htn hcd
        rw [hP] at hcd hcall
        have hvg : vget ((catS l).drop P) = (x, vsz x, 0) := by rw [hcd]; exact vget_put (vsz_ok x) (vsz_fit hsm) _
        rw [hvg] at hk
        have hvz := vsz_le x
        have hP2 : (catS (l.take (i + 1))).length = P + vsz x := by rw [htn, cat_snoc, List.length_append, hP, vputS_len]
        have hpl2 : P + vsz x ≤ (catS l).length := by
          have := congrArg List.length hcd
          rw [List.length_drop, List.length_append, vputS_len] at this; omega
        have w1 : IntKind.i64.wrap ((P : Int) + (vsz x : Int)) = ((P + vsz x : Nat) : Int) := by rw [i64wrap] <;> omega
        refine CallsH.pure _ rfl hk ?_
        simp (config := { dsimp := false, maxSteps := 10000000 }) (disch := omega) only [go_sem, reduceIte, Nat.reduceEqDiff, reduceCtorEq, Nat.reduceAdd, Nat.reduceMul, Int.reduceToNat, Int.reduceLE, Int.reduceLT, Int.reduceEq, Int.reduceNe, Nat.reduceLeDiff, Int.reducePow, Nat.reducePow, Nat.reduceLT, Nat.reduceSub, Nat.reduceMod, Nat.reduceDiv, slot_neg, slot_pos, T.ag_23, T.es_23, T.gf_15, T.ib_24, T.ib_3, T.ii_23, T.ip_24, T.ip_3, T.s8_23, T.sl_23, T.st_23, T.un_23, q0, q1, q3]
        refine hcall.mono fun u H' hu => ?_
        rcases hu with ⟨rfl, hJ'⟩ | ⟨rfl, hX⟩
        · simp (config := { dsimp := false, maxSteps := 10000000 }) (disch := omega) only [go_sem, reduceIte, Nat.reduceEqDiff, reduceCtorEq, Nat.reduceAdd, Nat.reduceMul, Int.reduceToNat, Int.reduceLE, Int.reduceLT, Int.reduceEq, Int.reduceNe, Nat.reduceLeDiff, Int.reducePow, Nat.reducePow, Nat.reduceLT, Nat.reduceSub, Nat.reduceMod, Nat.reduceDiv, slot_neg, slot_pos, T.ag_23, T.es_23, T.gf_15, T.ib_24, T.ib_3, T.ii_23, T.ip_24, T.ip_3, T.s8_23, T.sl_23, T.st_23, T.un_23, q0, q1, q3, w1]
          exact ⟨⟨i + 1, hil, hJ', by rw [hP2]⟩, by omega⟩
        · simp (config := { dsimp := false, maxSteps := 10000000 }) (disch := omega) only [go_sem, reduceIte, Nat.reduceEqDiff, reduceCtorEq, Nat.reduceAdd, Nat.reduceMul, Int.reduceToNat, Int.reduceLE, Int.reduceLT, Int.reduceEq, Int.reduceNe, Nat.reduceLeDiff, Int.reducePow, Nat.reducePow, Nat.reduceLT, Nat.reduceSub, Nat.reduceMod, Nat.reduceDiv, slot_neg, slot_pos, T.ag_23, T.es_23, T.gf_15, T.ib_24, T.ib_3, T.ii_23, T.ip_24, T.ip_3, T.s8_23, T.sl_23, T.st_23, T.un_23, q0, q1, q3]
          exact .inr hX
      · obtain rfl : i = l.length := by omega
        rw [List.take_length] at hP
        have hd : (catS l).drop P = [] := by rw [← hP]; exact List.drop_length
        rw [hd] at hk
        refine CallsH.pure _ rfl hk ?_
        simp (config := { dsimp := false, maxSteps := 10000000 }) (disch := omega) only [go_sem, reduceIte, Nat.reduceEqDiff, reduceCtorEq, Nat.reduceAdd, Nat.reduceMul, Int.reduceToNat, Int.reduceLE, Int.reduceLT, Int.reduceEq, Int.reduceNe, Nat.reduceLeDiff, Int.reducePow, Nat.reducePow, Nat.reduceLT, Nat.reduceSub, Nat.reduceMod, Nat.reduceDiv, slot_neg, slot_pos, T.ag_23, T.es_23, T.gf_15, T.ib_24, T.ib_3, T.ii_23, T.ip_24, T.ip_3, T.s8_23, T.sl_23, T.st_23, T.un_23, q0, q1, q3, vget]
        exact .inl hJi
theorem All_ph (h : Heap) (v : Value) (l : List UInt8) (hr : RowIn u8E h v l) : @CallsH Tryd.prog 8 #[v] h ⟨fun u H => u = .func (.func 14) #[] #[.pointer (some ⟨h.next, 0, none⟩)] ∧ H = h.alloc (.cells [v] .own)⟩ := by
  have h1 := hr.one
  (refine calls_of_vc [] hm Tryd.func8 rfl (ts := [2]) rfl (by kernel_rfl) (by simp) ?_; simp (config := { dsimp := false }) only [go_sem, reduceIte, Nat.reduceEqDiff, reduceCtorEq, Nat.reduceAdd, Nat.reduceMul, Int.reduceToNat, Int.reduceLE, Int.reduceLT, Int.reduceEq, Int.reduceNe, Nat.reduceLeDiff, Int.reducePow, Nat.reducePow, Nat.reduceLT, Nat.reduceSub, Nat.reduceMod, Nat.reduceDiv, init_a, h1.1, h1.2])
def posS (l : List Nat) (i : Nat) : Nat := (catS (l.take i)).length
theorem AllS (b : Nat) (v : Value) (l : List Nat) (hl : l.length ≤ 60) (hn : ∀ n ∈ l, n < listB) : SeqH Tryd.prog 14 #[.pointer (some ⟨b, 0, none⟩)] ((List.range l.length).map fun i => #[.int .i64 (posS l i : Nat), .int .u64 ((l[i]?.getD 0 : Nat) : Int)]) (fun H => ∃ o, H.get b = .live (.cells [v] o) ∧ RowIn u8E H v (catS l)) :=
  fun id J Jx h h0 hJ _ hY => by
    have hln : ((List.range l.length).map fun i => #[Value.int .i64 (posS l i : Nat), Value.int .u64 ((l[i]?.getD 0 : Nat) : Int)]).length = l.length := by simp
    rw [hln]
    refine All1 h id b v l J Jx hl hn h0 hJ fun i x H hx hJi => hY i _ H ?_ hJi
    rw [List.getElem?_map, List.getElem?_range (List.getElem?_eq_some_iff.1 hx).1, Option.map_some, hx]; rfl
end Ph
