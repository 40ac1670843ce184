import Derived.Test.YthghohhaagkbnaaC7
set_option maxRecDepth 100000
set_option maxHeartbeats 4000000
set_option linter.unusedSimpArgs false
set_option linter.unusedVariables false
namespace Ph
open Go Go.Proofs
attribute [local irreducible] Value.cells
attribute [local go_sem ↓] y_move y_assign y_pick y_nil y_bin y_un y_fa y_field y_ext y_ia y_ix y_slice y_build y_mf y_rg y_nx y_en y_mm y_lk y_mu y_del y_load y_len y_min y_max y_conv y_bs y_mk y_alloc y_box y_store y_clear y_app y_callf y_callt s_move s_assign s_pick s_nil s_bin s_un s_fa s_field s_ext s_ia s_ix s_slice s_conv s_build s_bs s_mf s_alloc s_box s_rg s_nx s_en s_mm s_lk s_mu s_del s_load s_store s_len s_clear s_min s_max s_app s_call q_call q_move q_assign q_pick q_nil q_bin q_un q_fa q_field q_ext q_ia q_ix q_slice q_conv q_build q_mf q_lk q_load q_len q_min q_max l_nil l_move l_assign l_pick l_nilc l_bin l_un l_fa l_field l_ext l_ia l_ix l_slice l_conv l_build l_mf l_lk l_load l_len l_min l_max l_call put_eq putN_eq o_nil o_plain o_gate v_nil v_plain v_gate vc_skip vc_region vc_seq vc_cond vc_block vc_loop vc_rf vc_exit vc_ret blk_normal blk_ret blk_exit on_normal on_ret on_exit vc_drawn draw_q s_mk l_bs l_mk l_rg l_nx l_en l_mm l_mu l_del l_alloc l_box l_store l_app l_clear pl_done pl_takeS pl_take pl_alt pl_stop one_plain one_gate
attribute [local go_sem] clear_nil clear_sl onAgg_a onTuple_t onFn_f onFn_y onFunc_f c_int c_nil c_sl c_str sl_sl sl_nil sl_str ix_str ix_agg n_nil n_sl n_str app_eq k_nil k_sl len_sl len_str len_mn len_m onMap_m onIter_i rg_n rg_m nx_p en_p lk_n lk_m up_m setM_n setM_s del_n del_m kt_s kt_i upd_some upd_none ev_tmp ev_const ev_func rd_some gdst_eq otmp_t otmp_c get_put get_alloc next_put next_alloc get_app next_app init_a resV1 resV2 onPtr_ptr onBool_b onInt_i onSlice_s onSome_s onCells_c lett_eq gate_tt gate_tf gate_ff gate_ft gate_dt gate_df also_eq bin un minmax io_none io_some bo_none bo_some partOf List.getElem?_cons_zero List.getElem?_cons_succ List.getElem?_toArray Option.map_some Option.map_none Option.bind_some ne_eq not_true_eq_false not_false_eq_true false_implies true_implies and_true true_and and_self Bool.false_eq_true Nat.zero_add Nat.add_zero List.size_toArray List.length_cons List.length_nil List.map_toArray List.map_cons List.map_nil Array.getD_eq_getD_getElem? Option.getD_some Bool.not_true Bool.not_false Bool.not_eq_true Option.isNone_some Option.isNone_none List.append_toArray List.append_nil List.nil_append List.cons_append decide_true decide_false in_nil in_cons Bool.and_false Bool.and_true Bool.or_false Bool.true_or Bool.false_or get_mask next_mask get_unmask next_unmask ac_move ac_assign ac_pick ac_nil ac_bin ac_un ac_fa ac_field ac_ext ac_ia ac_ix ac_slice ac_build ac_mf ac_call ac_len ac_lk ac_min ac_max accM_m accM_n accM_s accM_t ac_load ac_conv accP_p accS_s accS_n accS_i accS_t fixed_ro fixed_lock fixed_own get_ro next_ro lock_live' lock_cells List.mem_cons List.not_mem_nil or_false false_or or_true true_or and_false false_and IntKind.bits Int.natCast_zero Int.natCast_one size_str data_str list_str mk_str ext_str app_str bytes_str w_byte w_byteu Int.toNat_natCast Int.toNat_zero Int.toNat_one Nat.sub_zero ge_iff_le gt_iff_lt Nat.le_refl Int.le_refl List.drop_zero Int.ofNat_eq_natCast Int.natCast_nonneg Int.sub_zero oc_int oc_bool oc_str oc_ptr oc_sl oc_map oc_func List.set_cons_zero List.set_cons_succ Nat.mul_one List.all_cons List.all_nil Bool.and_self res_nil res_tmp res_cell tup_one tup_two tup_nil fill_nil repl_zero cells_agg List.append_eq List.toList_toArray Nat.zero_mul Nat.one_mul repl_one repl_two onSome_build fill_cons onSome_lit splice_eq cells_int cells_bool cells_str cells_ptr cells_sl cells_map cells_func loadK_n loadK_s load_k storeK_n storeK_s store_k all_arr List.take_zero List.take_succ_cons List.drop_succ_cons List.take_nil List.drop_nil lk_own lk_ro lk_lock lk_lk fixed_lk gate_nt gate_nf gate3_b gate3_u undef Bool.true_and Bool.false_and nx_l nx_r nx_lt put_put resV0
/-! slices.Values of numbers, cache.Least, CacheLeast. -/
theorem ValInt1 (h : Heap) (id b : Nat) (v : Value) (l : List Int) (J : Nat → Heap → Prop) (Jx : Heap → Prop) (hl : l.length < 9223372036854775807) (h0 : J 0 h)
    (hJ : ∀ i H, J i H → ∃ o, H.get b = .live (.cells [v] o) ∧ RowIn iE H v l)
    (hY : ∀ (i : Nat) (x : Int) (H : Heap), l[i]? = some x → J i H → @YieldH Try.prog id #[.int .i64 x] H ⟨fun u H' => (u = .bool true ∧ J (i + 1) H') ∨ (u = .bool false ∧ Jx H')⟩) :
    @CallsH Try.prog 45 #[.func (.yield id) #[] #[], .pointer (some ⟨b, 0, none⟩)] h ⟨fun u H => J l.length H ∨ Jx H⟩ := by
  obtain ⟨o, hb, hr⟩ := hJ 0 h h0
  obtain ⟨A, st, hv⟩ := hr.form
  (refine calls_of_vc [] hm Try.func45 rfl (ts := []) rfl (by kernel_rfl) (by simp) ?_; simp (config := { dsimp := false }) only [go_sem, reduceIte, Nat.reduceEqDiff, reduceCtorEq, Nat.reduceAdd, Nat.reduceMul, Int.reduceToNat, Int.reduceLE, Int.reduceLT, Int.reduceEq, Int.reduceNe, Nat.reduceLeDiff, Int.reducePow, Nat.reducePow, Nat.reduceLT, Nat.reduceSub, Nat.reduceMod, Nat.reduceDiv, T.ag_22, T.ag_3, T.es_22, T.ib_3, T.ii_22, T.ip_3, T.s8_22, T.sl_22, T.st_22, T.un_22, init_a, hb, hv])
  refine loop_intro [] hm (fun r H => ∃ i : Nat, i ≤ l.length ∧ J i H ∧ r 0 = .func (.yield id) #[] #[] ∧ r 5 = v ∧ r 6 = .int .i64 l.length ∧ r 7 = .int .i64 i) (fun r _ => match r 7 with | .int _ i => l.length - i.toNat | _ => 0) ?_ ?_
  · exact ⟨0, by omega, h0, by simp [upd, initR], by simp [upd, hv], by simp [upd], by simp [upd]⟩
  · rintro r H ⟨i, hi, hJi, q0, q5, q6, q7⟩
    obtain ⟨o, hb, hr⟩ := hJ i H hJi
    by_cases hlt : i < l.length
    · have hlt' : ((i : Int) < (l.length : Int)) = True := eq_true (by omega)
      have hx : l[i]? = some l[i] := List.getElem?_eq_getElem hlt
      obtain ⟨q, off, vs, o2, hv', hq, y1, hbd⟩ := row_at hr hlt
      have hcall := hY i l[i] H hx hJi
      have w1 : IntKind.i64.wrap ((i : Int) + 1) = ((i + 1 : Nat) : Int) := by rw [i64wrap] <;> omega
      generalize l[i] = x at hx y1 hcall
      rw [hv'] at q5
      simp (config := { dsimp := false }) only [go_sem, reduceIte, Nat.reduceEqDiff, reduceCtorEq, Nat.reduceAdd, Nat.reduceMul, Int.reduceToNat, Int.reduceLE, Int.reduceLT, Int.reduceEq, Int.reduceNe, Nat.reduceLeDiff, Int.reducePow, Nat.reducePow, Nat.reduceLT, Nat.reduceSub, Nat.reduceMod, Nat.reduceDiv, T.ag_22, T.ag_3, T.es_22, T.ib_3, T.ii_22, T.ip_3, T.s8_22, T.sl_22, T.st_22, T.un_22, q0, q5, q6, q7, hq, y1, hlt']
      refine hcall.mono fun u H' hu => ?_
      rcases hu with ⟨rfl, hJ'⟩ | ⟨rfl, hX⟩
      · simp (config := { dsimp := false }) only [go_sem, reduceIte, Nat.reduceEqDiff, reduceCtorEq, Nat.reduceAdd, Nat.reduceMul, Int.reduceToNat, Int.reduceLE, Int.reduceLT, Int.reduceEq, Int.reduceNe, Nat.reduceLeDiff, Int.reducePow, Nat.reducePow, Nat.reduceLT, Nat.reduceSub, Nat.reduceMod, Nat.reduceDiv, T.ag_22, T.ag_3, T.es_22, T.ib_3, T.ii_22, T.ip_3, T.s8_22, T.sl_22, T.st_22, T.un_22, q0, q5, q6, q7, w1, hv']
        exact ⟨⟨i + 1, hlt, hJ', rfl⟩, by omega⟩
      · simp (config := { dsimp := false }) only [go_sem, reduceIte, Nat.reduceEqDiff, reduceCtorEq, Nat.reduceAdd, Nat.reduceMul, Int.reduceToNat, Int.reduceLE, Int.reduceLT, Int.reduceEq, Int.reduceNe, Nat.reduceLeDiff, Int.reducePow, Nat.reducePow, Nat.reduceLT, Nat.reduceSub, Nat.reduceMod, Nat.reduceDiv, T.ag_22, T.ag_3, T.es_22, T.ib_3, T.ii_22, T.ip_3, T.s8_22, T.sl_22, T.st_22, T.un_22, q0, q5, q6, q7]
        exact .inr hX
    · have hlt' : ((i : Int) < (l.length : Int)) = False := eq_false (by omega)
      simp (config := { dsimp := false }) only [go_sem, reduceIte, Nat.reduceEqDiff, reduceCtorEq, Nat.reduceAdd, Nat.reduceMul, Int.reduceToNat, Int.reduceLE, Int.reduceLT, Int.reduceEq, Int.reduceNe, Nat.reduceLeDiff, Int.reducePow, Nat.reducePow, Nat.reduceLT, Nat.reduceSub, Nat.reduceMod, Nat.reduceDiv, T.ag_22, T.ag_3, T.es_22, T.ib_3, T.ii_22, T.ip_3, T.s8_22, T.sl_22, T.st_22, T.un_22, q0, q5, q6, q7, hlt']
      obtain rfl : i = l.length := by omega
      exact .inl hJi
theorem ValInt_ph (h : Heap) (v : Value) (l : List Int) (hr : RowIn iE h v l) : @CallsH Try.prog 14 #[v] h ⟨fun u H => u = .func (.func 45) #[] #[.pointer (some ⟨h.next, 0, none⟩)] ∧ H = h.alloc (.cells [v] .own)⟩ := by
  have h1 := hr.one
  (refine calls_of_vc [] hm Try.func14 rfl (ts := [2]) rfl (by kernel_rfl) (by simp) ?_; simp (config := { dsimp := false }) only [go_sem, reduceIte, Nat.reduceEqDiff, reduceCtorEq, Nat.reduceAdd, Nat.reduceMul, Int.reduceToNat, Int.reduceLE, Int.reduceLT, Int.reduceEq, Int.reduceNe, Nat.reduceLeDiff, Int.reducePow, Nat.reducePow, Nat.reduceLT, Nat.reduceSub, Nat.reduceMod, Nat.reduceDiv, init_a, h1.1, h1.2])
theorem ValIntS (b : Nat) (v : Value) (l : List Int) (hl : l.length < 9223372036854775807) : SeqH Try.prog 45 #[.pointer (some ⟨b, 0, none⟩)] (l.map fun n : Int => #[.int .i64 n]) (fun H => ∃ o, H.get b = .live (.cells [v] o) ∧ RowIn iE H v l) :=
  fun id J Jx h h0 hJ _ hY => by
    rw [List.length_map]
    refine ValInt1 h id b v l J Jx hl h0 hJ fun i x H hx hJi => hY i _ H ?_ hJi
    rw [List.getElem?_map, hx]; rfl
theorem take_next {α : Type} {l : List α} {i : Nat} {x : α} (h : l[i]? = some x) : l.take (i + 1) = l.take i ++ [x] := by
  obtain ⟨hi, rfl⟩ := List.getElem?_eq_some_iff.1 h
  exact List.take_succ_eq_append_getElem hi
def lstep (f : Int → Int) (s : Int × Bool) (v : Int) : Int × Bool := if s.2 = false ∨ f v < s.1 then (f v, true) else s
def lst (f : Int → Int) (l : List Int) : Int × Bool := l.foldl (lstep f) (0, false)
theorem lst_snoc (f : Int → Int) (l : List Int) (x : Int) : lst f (l ++ [x]) = lstep f (lst f l) x := by unfold lst; rw [List.foldl_append]; rfl
theorem lst_some (f : Int → Int) : ∀ (l : List Int), (lst f l).2 = decide (l ≠ []) := by
  have key : ∀ (l : List Int) (s : Int × Bool), (l.foldl (lstep f) s).2 = (s.2 || decide (l ≠ [])) := by
    intro l
    induction l with
    | nil => intro s; simp
    | cons x l ih =>
      intro s
      rw [List.foldl_cons, ih]
      obtain ⟨a, b⟩ := s
      cases b
      · simp [lstep]
      · simp only [lstep]; split <;> simp
  intro l
  have := key l (0, false)
  simpa [lst] using this
theorem Least_ph (h : Heap) (b : Nat) (v : Value) (l : List Int) (g : Nat) (f : Int → Int) (hl : l.length < 9223372036854775807) (hg : goodFunc Try.prog g = true) (hf : ∀ x H, @CallsH Try.prog g #[.int .i64 x] H ⟨fun u H' => u = .int .i64 (f x) ∧ H' = H⟩)
    (o : Own) (gb : h.get b = .live (.cells [v] o)) (hbn : b < h.next) (hr : RowIn iE h v l) (hlt : ∀ A n st, v = .slice (some A) n st → A.block < h.next) :
    @CallsH Try.prog 13 #[.func (.func 45) #[] #[.pointer (some ⟨b, 0, none⟩)], .func (.func g) #[] #[]] h ⟨fun u H => u = .tuple #[.int .i64 (lst f l).1, .bool (lst f l).2] ∧ Upd h H []⟩ := by
  (refine calls_of_codeR (rs := [.tmp 4, .tmp 5]) Try.func13 rfl rfl (by simp) ?_)
  (refine CodeH.seq' (CodeH.of_vc [] hm (by kernel_rfl) ?_); simp (config := { dsimp := false, maxSteps := 10000000 }) (disch := omega) only [go_sem, reduceIte, Nat.reduceEqDiff, reduceCtorEq, Nat.reduceAdd, Nat.reduceMul, Int.reduceToNat, Int.reduceLE, Int.reduceLT, Int.reduceEq, Int.reduceNe, Nat.reduceLeDiff, Int.reducePow, Nat.reducePow, Nat.reduceLT, Nat.reduceSub, Nat.reduceMod, Nat.reduceDiv, slot_neg, slot_pos, T.ag_3, T.ag_38, T.ag_4, T.ib_3, T.ip_3, T.zo_3, T.zo_4, init_a])
  (refine CodeH.seq' (CodeH.of_vc [] hm (by kernel_rfl) ?_); simp (config := { dsimp := false, maxSteps := 10000000 }) (disch := omega) only [go_sem, reduceIte, Nat.reduceEqDiff, reduceCtorEq, Nat.reduceAdd, Nat.reduceMul, Int.reduceToNat, Int.reduceLE, Int.reduceLT, Int.reduceEq, Int.reduceNe, Nat.reduceLeDiff, Int.reducePow, Nat.reducePow, Nat.reduceLT, Nat.reduceSub, Nat.reduceMod, Nat.reduceDiv, slot_neg, slot_pos, T.ag_3, T.ag_38, T.ag_4, T.ib_3, T.ip_3, T.zo_3, T.zo_4, init_a])
  (refine CodeH.seq' (CodeH.of_vc [] hm (by kernel_rfl) ?_); simp (config := { dsimp := false, maxSteps := 10000000 }) (disch := omega) only [go_sem, reduceIte, Nat.reduceEqDiff, reduceCtorEq, Nat.reduceAdd, Nat.reduceMul, Int.reduceToNat, Int.reduceLE, Int.reduceLT, Int.reduceEq, Int.reduceNe, Nat.reduceLeDiff, Int.reducePow, Nat.reducePow, Nat.reduceLT, Nat.reduceSub, Nat.reduceMod, Nat.reduceDiv, slot_neg, slot_pos, T.ag_3, T.ag_38, T.ag_4, T.ib_3, T.ip_3, T.zo_3, T.zo_4, init_a])
  obtain ⟨H1, hH1⟩ : ∃ H1, ((((h.alloc (.cells [.func (.func g) #[] #[]] .own)).alloc (.cells [.int .i64 0] .own)).alloc (.cells [.bool false] .own)).put (h.next + 1) (.live (.cells [.int .i64 0] .own))).put (h.next + 1 + 1) (.live (.cells [.bool false] .own)) = H1 := ⟨_, rfl⟩
  rw [hH1]
  have g0 : H1.get h.next = .live (.cells [.func (.func g) #[] #[]] .own) := by rw [← hH1]; simp (config := { dsimp := false }) (disch := omega) only [get_alloc, get_put, get_app, next_alloc, next_put, next_app, get_mask, get_unmask, next_mask, next_unmask, List.mem_cons, List.not_mem_nil, or_false, true_or, or_true, false_or, and_true, true_and, and_false, false_and, not_true_eq_false, not_false_eq_true, ne_eq, reduceIte, slot_neg, slot_pos]
  have g1 : H1.get (h.next + 1) = .live (.cells [.int .i64 0] .own) := by rw [← hH1]; simp (config := { dsimp := false }) (disch := omega) only [get_alloc, get_put, get_app, next_alloc, next_put, next_app, get_mask, get_unmask, next_mask, next_unmask, List.mem_cons, List.not_mem_nil, or_false, true_or, or_true, false_or, and_true, true_and, and_false, false_and, not_true_eq_false, not_false_eq_true, ne_eq, reduceIte, slot_neg, slot_pos]
  have g2 : H1.get (h.next + 2) = .live (.cells [.bool false] .own) := by rw [← hH1]; simp (config := { dsimp := false }) (disch := omega) only [get_alloc, get_put, get_app, next_alloc, next_put, next_app, get_mask, get_unmask, next_mask, next_unmask, List.mem_cons, List.not_mem_nil, or_false, true_or, or_true, false_or, and_true, true_and, and_false, false_and, not_true_eq_false, not_false_eq_true, ne_eq, reduceIte, slot_neg, slot_pos]
  have hn1 : H1.next = h.next + 3 := by rw [← hH1]; rfl
  have hU1 : Upd h H1 [] := by rw [← hH1]; exact ((((Upd.alloc _ _ _).allocs).allocs).put (.inr (by omega))).put (.inr (by omega))
  clear hH1
  refine RF.gen (fun r => r 3 = .pointer (some ⟨h.next, 0, none⟩) ∧ r 6 = .pointer (some ⟨h.next + 1, 0, none⟩) ∧ r 7 = .pointer (some ⟨h.next + 2, 0, none⟩) ∧ r 10 = .func (.func 45) #[] #[.pointer (some ⟨b, 0, none⟩)]) ⟨by simp [upd], by simp [upd], by simp [upd], by simp [upd, initR]⟩ fun r ⟨q3, q6, q7, q10⟩ => ?_
  refine range_over q10 (by kernel_rfl) (ValIntS b v l (by omega)) (fun args ha => ?_) (fun i H => h.next + 4 ≤ H.next ∧ H.get h.next = .live (.cells [.func (.func g) #[] #[]] .own) ∧ H.get (h.next + 1) = .live (.cells [.int .i64 (lst f (l.take i)).1] .own) ∧ H.get (h.next + 2) = .live (.cells [.bool (lst f (l.take i)).2] .own) ∧ Upd h H []) ?_ ?_ ?_ ?_ ?_ ?_
  · obtain ⟨i, _, rfl⟩ := List.mem_map.1 ha; rfl
  · intro H hu1 hn2
    exact ⟨by omega, (hu1.2 _ (by omega) (by simp)).trans g0, (hu1.2 _ (by omega) (by simp)).trans g1, (hu1.2 _ (by omega) (by simp)).trans g2, hU1.trans hu1 (by simp)⟩
  · rintro i H ⟨_, _, _, _, hu⟩
    exact ⟨_, (hu.2 b hbn (by simp)).trans gb, hr.upd fun A n st e => hu.2 _ (hlt A n st e) (by simp)⟩
  · rintro i H H' ⟨a1, a2, a3, a4, a8⟩ hu
    exact ⟨Nat.le_trans a1 hu.1, (hu.2 _ (by omega) (by simp)).trans a2, (hu.2 _ (by omega) (by simp)).trans a3, (hu.2 _ (by omega) (by simp)).trans a4, a8.trans hu (by simp)⟩
  · rintro i H x ⟨a1, a2, a3, a4, a8⟩
    rw [hn1]
    exact ⟨a1, by rw [get_put, if_neg (by omega)]; exact a2, by rw [get_put, if_neg (by omega)]; exact a3, by rw [get_put, if_neg (by omega)]; exact a4, a8.put (.inr (by omega))⟩
  · rintro H x ⟨a1, a2, a3, a4, a8⟩
    rw [List.length_map, List.take_length] at a3 a4
    rw [hn1]
    obtain ⟨Hx, hHx⟩ : ∃ Hx, H.put (h.next + 3) x = Hx := ⟨_, rfl⟩
    rw [hHx]
    have e3 : Hx.get (h.next + 1) = .live (.cells [.int .i64 (lst f l).1] .own) := by rw [← hHx, get_put, if_neg (by omega)]; exact a3
    have e4 : Hx.get (h.next + 2) = .live (.cells [.bool (lst f l).2] .own) := by rw [← hHx, get_put, if_neg (by omega)]; exact a4
    have e8 : Upd h Hx [] := by rw [← hHx]; exact a8.put (.inr (by omega))
    clear hHx
    (refine CodeH.of_vc [] hm (by kernel_rfl) ?_; simp (config := { dsimp := false, maxSteps := 10000000 }) (disch := omega) only [go_sem, reduceIte, Nat.reduceEqDiff, reduceCtorEq, Nat.reduceAdd, Nat.reduceMul, Int.reduceToNat, Int.reduceLE, Int.reduceLT, Int.reduceEq, Int.reduceNe, Nat.reduceLeDiff, Int.reducePow, Nat.reducePow, Nat.reduceLT, Nat.reduceSub, Nat.reduceMod, Nat.reduceDiv, slot_neg, slot_pos, T.ag_3, T.ag_38, T.ag_4, T.ib_3, T.ip_3, T.zo_3, T.zo_4, init_a, q6, q7, e3, e4])
    exact e8
  · rintro n i args H B k1 k2 hx ⟨a1, a2, a3, a4, a8⟩ hB hlt2
    have hi : i < l.length := by
      have := (List.getElem?_eq_some_iff.1 hx).1; simpa using this
    have hxx : l[i]? = some l[i] := List.getElem?_eq_getElem hi
    rw [List.getElem?_map, hxx] at hx
    generalize l[i] = y at hx hxx
    cases hx
    rw [show ∀ a : Value, setP r (#[11] : Array Nat).toList (#[a] : Array Value).toList = upd r (some 11) a from fun _ => rfl]
    refine CodeH.of_vc [] hm k1 ?_
    simp (config := { dsimp := false, maxSteps := 10000000 }) (disch := omega) only [go_sem, reduceIte, Nat.reduceEqDiff, reduceCtorEq, Nat.reduceAdd, Nat.reduceMul, Int.reduceToNat, Int.reduceLE, Int.reduceLT, Int.reduceEq, Int.reduceNe, Nat.reduceLeDiff, Int.reducePow, Nat.reducePow, Nat.reduceLT, Nat.reduceSub, Nat.reduceMod, Nat.reduceDiv, slot_neg, slot_pos, T.ag_3, T.ag_38, T.ag_4, T.ib_3, T.ip_3, T.zo_3, T.zo_4, hB]
    rw [hn1] at hB hlt2 ⊢
    refine fun B' => CodeH.of_vc [] hm k2 ?_
    obtain ⟨Hb, hHb⟩ : ∃ Hb, H.put (h.next + 3) B' = Hb := ⟨_, rfl⟩
    rw [hHb]
    have e2 : Hb.get h.next = .live (.cells [.func (.func g) #[] #[]] .own) := by rw [← hHb, get_put, if_neg (by omega)]; exact a2
    have e3 : Hb.get (h.next + 1) = .live (.cells [.int .i64 (lst f (l.take i)).1] .own) := by rw [← hHb, get_put, if_neg (by omega)]; exact a3
    have e4 : Hb.get (h.next + 2) = .live (.cells [.bool (lst f (l.take i)).2] .own) := by rw [← hHb, get_put, if_neg (by omega)]; exact a4
    have eB : Hb.get (h.next + 3) = B' := by rw [← hHb, get_put, if_pos rfl]
    have e8 : Upd h Hb [] := by rw [← hHb]; exact a8.put (.inr (by omega))
    have e9 : h.next + 4 ≤ Hb.next := by rw [← hHb, next_put]; exact a1
    clear hHb
    rw [take_next hxx, lst_snoc]
    generalize lst f (l.take i) = S at e3 e4 ⊢
    obtain ⟨best, some_⟩ := S
    simp (config := { dsimp := false, maxSteps := 10000000 }) (disch := omega) only [go_sem, reduceIte, Nat.reduceEqDiff, reduceCtorEq, Nat.reduceAdd, Nat.reduceMul, Int.reduceToNat, Int.reduceLE, Int.reduceLT, Int.reduceEq, Int.reduceNe, Nat.reduceLeDiff, Int.reducePow, Nat.reducePow, Nat.reduceLT, Nat.reduceSub, Nat.reduceMod, Nat.reduceDiv, slot_neg, slot_pos, T.ag_3, T.ag_38, T.ag_4, T.ib_3, T.ip_3, T.zo_3, T.zo_4, q3, e2]
    refine ⟨hg, (hf y Hb).mono fun u H2 hu => ?_⟩
    obtain ⟨rfl, rfl⟩ := hu
    cases some_
    · simp (config := { dsimp := false, maxSteps := 10000000 }) (disch := omega) only [go_sem, reduceIte, Nat.reduceEqDiff, reduceCtorEq, Nat.reduceAdd, Nat.reduceMul, Int.reduceToNat, Int.reduceLE, Int.reduceLT, Int.reduceEq, Int.reduceNe, Nat.reduceLeDiff, Int.reducePow, Nat.reducePow, Nat.reduceLT, Nat.reduceSub, Nat.reduceMod, Nat.reduceDiv, slot_neg, slot_pos, T.ag_3, T.ag_38, T.ag_4, T.ib_3, T.ip_3, T.zo_3, T.zo_4, q6, q7, e3, e4]
      exact ⟨eB, by omega, by omega, e2, by simp [lstep], by simp [lstep], (e8.put (.inr (by omega))).put (.inr (by omega))⟩
    · by_cases c : f y < best
      · have c' : (f y < best) = True := eq_true c
        simp (config := { dsimp := false, maxSteps := 10000000 }) (disch := omega) only [go_sem, reduceIte, Nat.reduceEqDiff, reduceCtorEq, Nat.reduceAdd, Nat.reduceMul, Int.reduceToNat, Int.reduceLE, Int.reduceLT, Int.reduceEq, Int.reduceNe, Nat.reduceLeDiff, Int.reducePow, Nat.reducePow, Nat.reduceLT, Nat.reduceSub, Nat.reduceMod, Nat.reduceDiv, slot_neg, slot_pos, T.ag_3, T.ag_38, T.ag_4, T.ib_3, T.ip_3, T.zo_3, T.zo_4, q6, q7, e3, e4, c']
        exact ⟨eB, by omega, by omega, e2, by simp [lstep, c], by simp [lstep, c], (e8.put (.inr (by omega))).put (.inr (by omega))⟩
      · have c' : (f y < best) = False := eq_false c
        simp (config := { dsimp := false, maxSteps := 10000000 }) (disch := omega) only [go_sem, reduceIte, Nat.reduceEqDiff, reduceCtorEq, Nat.reduceAdd, Nat.reduceMul, Int.reduceToNat, Int.reduceLE, Int.reduceLT, Int.reduceEq, Int.reduceNe, Nat.reduceLeDiff, Int.reducePow, Nat.reducePow, Nat.reduceLT, Nat.reduceSub, Nat.reduceMod, Nat.reduceDiv, slot_neg, slot_pos, T.ag_3, T.ag_38, T.ag_4, T.ib_3, T.ip_3, T.zo_3, T.zo_4, q6, q7, e3, e4, c']
        exact ⟨eB, by omega, by omega, e2, by simp [lstep, c], by simp [lstep, c], e8⟩
end Ph
