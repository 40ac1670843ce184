import Derived.Test.YtliblomkhapibaaL11
set_option maxRecDepth 100000
set_option maxHeartbeats 1000000
set_option linter.unusedSimpArgs false
set_option linter.unusedVariables false
namespace Ph
open Go Go.Proofs
attribute [local irreducible] Value.cells
attribute [local go_sem ↓] y_move y_assign y_pick y_nil y_bin y_un y_fa y_field y_ext y_ia y_ix y_slice y_build y_mf y_load y_len y_min y_max y_conv y_bs y_mk y_alloc y_box y_store y_clear y_app y_callf y_callt s_move s_assign s_pick s_nil s_bin s_un s_fa s_field s_ext s_ia s_ix s_slice s_conv s_build s_bs s_mf s_alloc s_box s_load s_store s_len s_clear s_min s_max s_app s_call q_call q_move q_assign q_pick q_nil q_bin q_un q_fa q_field q_ext q_ia q_ix q_slice q_conv q_build q_mf q_load q_len q_min q_max l_nil l_move l_assign l_pick l_nilc l_bin l_un l_fa l_field l_ext l_ia l_ix l_slice l_conv l_build l_mf l_load l_len l_min l_max l_call put_eq putN_eq o_nil o_plain o_gate v_nil v_plain v_gate vc_skip vc_region vc_seq vc_cond vc_block vc_loop vc_rf vc_exit vc_ret blk_normal blk_ret blk_exit on_normal on_ret on_exit vc_drawn draw_q s_mk l_bs l_mk l_alloc l_box l_store l_app l_clear pl_done pl_takeS pl_take pl_alt pl_stop one_plain one_gate
attribute [local go_sem] clear_nil clear_sl onAgg_a onTuple_t onFn_f onFn_y onFunc_f c_int c_nil c_sl c_str sl_sl sl_nil sl_str ix_str ix_agg n_nil n_sl n_str app_eq k_nil k_sl len_sl len_str upd_some upd_none ev_tmp ev_const ev_func rd_some gdst_eq otmp_t otmp_c get_put get_alloc next_put next_alloc get_app next_app init_a resV1 resV2 onPtr_ptr onBool_b onInt_i onSlice_s onSome_s onCells_c lett_eq gate_tt gate_tf gate_ff gate_ft gate_dt gate_df also_eq bin un minmax io_none io_some bo_none bo_some partOf List.getElem?_cons_zero List.getElem?_cons_succ List.getElem?_toArray Option.map_some Option.map_none Option.bind_some ne_eq not_true_eq_false not_false_eq_true false_implies true_implies and_true true_and and_self Bool.false_eq_true Nat.zero_add Nat.add_zero List.size_toArray List.length_cons List.length_nil List.map_toArray List.map_cons List.map_nil Array.getD_eq_getD_getElem? Option.getD_some Bool.not_true Bool.not_false Bool.not_eq_true Option.isNone_some Option.isNone_none List.append_toArray List.append_nil List.nil_append List.cons_append decide_true decide_false in_nil in_cons Bool.and_false Bool.and_true Bool.or_false Bool.true_or Bool.false_or get_mask next_mask get_unmask next_unmask ac_move ac_assign ac_pick ac_nil ac_bin ac_un ac_fa ac_field ac_ext ac_ia ac_ix ac_slice ac_build ac_mf ac_call ac_load ac_conv accP_p accS_s accS_n accS_i accS_t fixed_ro fixed_lock fixed_own get_ro next_ro lock_live' lock_cells List.mem_cons List.not_mem_nil or_false false_or or_true true_or and_false false_and IntKind.bits Int.natCast_zero Int.natCast_one size_str data_str list_str mk_str ext_str app_str bytes_str w_byte w_byteu Int.toNat_natCast Int.toNat_zero Int.toNat_one Nat.sub_zero ge_iff_le gt_iff_lt Nat.le_refl Int.le_refl List.drop_zero Int.ofNat_eq_natCast Int.natCast_nonneg Int.sub_zero oc_int oc_bool oc_str oc_ptr oc_sl oc_map oc_func List.set_cons_zero List.set_cons_succ Nat.mul_one List.all_cons List.all_nil Bool.and_self res_nil res_tmp res_cell tup_one tup_two tup_nil fill_nil repl_zero cells_agg List.append_eq List.toList_toArray Nat.zero_mul Nat.one_mul repl_one repl_two onSome_build fill_cons onSome_lit splice_eq cells_int cells_bool cells_str cells_ptr cells_sl cells_map cells_func loadK_n loadK_s load_k storeK_n storeK_s store_k all_arr List.take_zero List.take_succ_cons List.drop_succ_cons List.take_nil List.drop_nil lk_own lk_ro lk_lock lk_lk fixed_lk gate_nt gate_nf gate3_b gate3_u undef Bool.true_and Bool.false_and nx_l nx_r nx_lt put_put resV0
/-- what is known, only looked at -/
def StV (h : Heap) (p : Nat) (s : St) : Prop := ∃ wv o, p < h.next ∧ h.get p = .live (.cells (stC wv s) o) ∧ RowIn pkE h wv s.waits ∧ ∀ A n st, wv = .slice (some A) n st → A.block < h.next
theorem StR.view {h : Heap} {p : Nat} {D : List Nat} {s : St} (hS : StR h p D s) : StV h p s := by
  obtain ⟨h1, h2, wv, h3, h4⟩ := hS
  refine ⟨wv, _, h1, h3, h4.row, fun A n st e => ?_⟩
  rcases h4 with ⟨e2, _⟩ | ⟨q, off, vs, _, hq, e2, _⟩
  · rw [e2] at e; cases e
  · rw [e2] at e; cases e; simp only; omega
theorem StV.ro {h : Heap} {p : Nat} {s : St} (hS : StV h p s) : StV h.ro p s := by
  obtain ⟨wv, o, h1, h2, h3, h4⟩ := hS
  exact ⟨wv, _, h1, by rw [get_ro, h2, lock_live', lock_cells], h3.ro, h4⟩
theorem timer_at (h : Heap) (p : Nat) (s : St) (hS : StV h p s) (hs : Ok s) : @CallsH Try.prog 39 #[.pointer (some ⟨p, 0, none⟩)] h ⟨fun u _ => u = tup3 (timerS s)⟩ := by
  obtain ⟨wv, o, h1, h2, h3, h4⟩ := hS
  exact timer_ph h p wv s o h1 h2 h3 h4 hs
theorem Timer_ph (h : Heap) (p : Nat) (s : St) (hS : StV h p s) (hs : Ok s) :
    @CallsH Try.prog 16 #[.pointer (some ⟨p, 0, none⟩)] h ⟨fun u _ => u = .tuple #[.int .i64 (timerS s).1, .bool (timerS s).2.1]⟩ := by
  (refine calls_of_vc [] hm Try.func16 rfl (ts := [2, 3]) rfl (by kernel_rfl) (by simp) ?_; simp (config := { dsimp := false }) only [go_sem, reduceIte, Nat.reduceEqDiff, reduceCtorEq, Nat.reduceAdd, Nat.reduceMul, Int.reduceToNat, Int.reduceLE, Int.reduceLT, Int.reduceEq, Int.reduceNe, Nat.reduceLeDiff, Int.reducePow, Nat.reducePow, Nat.reduceLT, Nat.reduceSub, Nat.reduceMod, Nat.reduceDiv, T.gf_39, init_a])
  refine CallsH.pure _ rfl (timer_at _ p s hS.ro hs) ?_
  simp (config := { dsimp := false }) only [go_sem, reduceIte, Nat.reduceEqDiff, reduceCtorEq, Nat.reduceAdd, Nat.reduceMul, Int.reduceToNat, Int.reduceLE, Int.reduceLT, Int.reduceEq, Int.reduceNe, Nat.reduceLeDiff, Int.reducePow, Nat.reducePow, Nat.reduceLT, Nat.reduceSub, Nat.reduceMod, Nat.reduceDiv, T.gf_39, tup3]
theorem timerN_ph (h : Heap) : @CallsH Try.prog 39 #[.pointer none] h ⟨fun u _ => u = .tuple #[.int .i64 0, .bool false, .bool false]⟩ := by
  (refine calls_of_vcR (rs := [.cell 2 3, .cell 3 4, .cell 4 4]) [] hm Try.func39 rfl rfl (by kernel_rfl) (by simp) ?_; simp (config := { dsimp := false, maxSteps := 10000000 }) (disch := omega) only [go_sem, reduceIte, Nat.reduceEqDiff, reduceCtorEq, Nat.reduceAdd, Nat.reduceMul, Int.reduceToNat, Int.reduceLE, Int.reduceLT, Int.reduceEq, Int.reduceNe, Nat.reduceLeDiff, Int.reducePow, Nat.reducePow, Nat.reduceLT, Nat.reduceSub, Nat.reduceMod, Nat.reduceDiv, slot_neg, slot_pos, T.ag_24, T.ag_3, T.ag_4, T.ag_61, T.ag_66, T.es_61, T.fo_63_0, T.fo_63_12, T.fo_63_2, T.fo_63_3, T.fo_63_4, T.fo_66_0, T.fo_66_2, T.fo_66_3, T.gf_50, T.gf_52, T.ib_24, T.ib_3, T.ii_61, T.ip_24, T.ip_3, T.s8_61, T.sl_61, T.st_61, T.un_61, T.zo_3, T.zo_4, T.zo_66, init_a])
theorem TimerN_ph (h : Heap) : @CallsH Try.prog 16 #[.pointer none] h ⟨fun u _ => u = .tuple #[.int .i64 0, .bool false]⟩ := by
  (refine calls_of_vc [] hm Try.func16 rfl (ts := [2, 3]) rfl (by kernel_rfl) (by simp) ?_; simp (config := { dsimp := false }) only [go_sem, reduceIte, Nat.reduceEqDiff, reduceCtorEq, Nat.reduceAdd, Nat.reduceMul, Int.reduceToNat, Int.reduceLE, Int.reduceLT, Int.reduceEq, Int.reduceNe, Nat.reduceLeDiff, Int.reducePow, Nat.reducePow, Nat.reduceLT, Nat.reduceSub, Nat.reduceMod, Nat.reduceDiv, T.gf_39, init_a])
  refine CallsH.pure _ rfl (timerN_ph _) ?_
  simp (config := { dsimp := false }) only [go_sem, reduceIte, Nat.reduceEqDiff, reduceCtorEq, Nat.reduceAdd, Nat.reduceMul, Int.reduceToNat, Int.reduceLE, Int.reduceLT, Int.reduceEq, Int.reduceNe, Nat.reduceLeDiff, Int.reducePow, Nat.reducePow, Nat.reduceLT, Nat.reduceSub, Nat.reduceMod, Nat.reduceDiv, T.gf_39]
theorem Room_ph (h : Heap) (p : Nat) (s : St) (hS : StV h p s) (hs : Ok s) :
    @CallsH Try.prog 18 #[.pointer (some ⟨p, 0, none⟩)] h ⟨fun u _ => u = .int .i64 (max (s.window - s.flight) 0)⟩ := by
  obtain ⟨wv, o, h1, h2, h3, h4⟩ := hS
  have n1 : (p = h.next) = False := eq_false (by omega)
  have b1 := hs.window
  have b2 := hs.len
  have b3 := hs.flight
  have b4 := asum_le s.waits fun x hx => ⟨by have := (hs.pk x hx).1; omega, (hs.pk x hx).2.1⟩
  have w : IntKind.i64.wrap (s.window - s.flight) = s.window - s.flight := i64wrap (by omega) (by omega)
  (refine calls_of_vc [] hm Try.func18 rfl (ts := [2]) rfl (by kernel_rfl) (by simp) ?_; simp (config := { dsimp := false }) only [go_sem, reduceIte, Nat.reduceEqDiff, reduceCtorEq, Nat.reduceAdd, Nat.reduceMul, Int.reduceToNat, Int.reduceLE, Int.reduceLT, Int.reduceEq, Int.reduceNe, Nat.reduceLeDiff, Int.reducePow, Nat.reducePow, Nat.reduceLT, Nat.reduceSub, Nat.reduceMod, Nat.reduceDiv, T.ag_3, T.fo_63_11, T.fo_63_8, T.ib_24, T.ib_3, T.ip_24, T.ip_3, init_a, h2, stC, n1, w, maxl])
theorem RoomN_ph (h : Heap) : @CallsH Try.prog 18 #[.pointer none] h ⟨fun u _ => u = .int .i64 0⟩ := by
  (refine calls_of_vc [] hm Try.func18 rfl (ts := [2]) rfl (by kernel_rfl) (by simp) ?_; simp (config := { dsimp := false }) only [go_sem, reduceIte, Nat.reduceEqDiff, reduceCtorEq, Nat.reduceAdd, Nat.reduceMul, Int.reduceToNat, Int.reduceLE, Int.reduceLT, Int.reduceEq, Int.reduceNe, Nat.reduceLeDiff, Int.reducePow, Nat.reducePow, Nat.reduceLT, Nat.reduceSub, Nat.reduceMod, Nat.reduceDiv, T.ag_3, T.fo_63_11, T.fo_63_8, T.ib_24, T.ib_3, T.ip_24, T.ip_3, init_a])
theorem Flight_ph (h : Heap) (p : Nat) (s : St) (hS : StV h p s) :
    @CallsH Try.prog 14 #[.pointer (some ⟨p, 0, none⟩)] h ⟨fun u _ => u = .int .i64 s.flight⟩ := by
  obtain ⟨wv, o, h1, h2, h3, h4⟩ := hS
  have n1 : (p = h.next) = False := eq_false (by omega)
  (refine calls_of_vc [] hm Try.func14 rfl (ts := [2]) rfl (by kernel_rfl) (by simp) ?_; simp (config := { dsimp := false }) only [go_sem, reduceIte, Nat.reduceEqDiff, reduceCtorEq, Nat.reduceAdd, Nat.reduceMul, Int.reduceToNat, Int.reduceLE, Int.reduceLT, Int.reduceEq, Int.reduceNe, Nat.reduceLeDiff, Int.reducePow, Nat.reducePow, Nat.reduceLT, Nat.reduceSub, Nat.reduceMod, Nat.reduceDiv, T.ag_3, T.fo_63_11, T.ib_24, T.ip_24, init_a, h2, stC, n1])
theorem FlightN_ph (h : Heap) : @CallsH Try.prog 14 #[.pointer none] h ⟨fun u _ => u = .int .i64 0⟩ := by
  (refine calls_of_vc [] hm Try.func14 rfl (ts := [2]) rfl (by kernel_rfl) (by simp) ?_; simp (config := { dsimp := false }) only [go_sem, reduceIte, Nat.reduceEqDiff, reduceCtorEq, Nat.reduceAdd, Nat.reduceMul, Int.reduceToNat, Int.reduceLE, Int.reduceLT, Int.reduceEq, Int.reduceNe, Nat.reduceLeDiff, Int.reducePow, Nat.reducePow, Nat.reduceLT, Nat.reduceSub, Nat.reduceMod, Nat.reduceDiv, T.ag_3, T.fo_63_11, T.ib_24, T.ip_24, init_a])
theorem Window_ph (h : Heap) (p : Nat) (s : St) (hS : StV h p s) :
    @CallsH Try.prog 15 #[.pointer (some ⟨p, 0, none⟩)] h ⟨fun u _ => u = .int .i64 s.window⟩ := by
  obtain ⟨wv, o, h1, h2, h3, h4⟩ := hS
  have n1 : (p = h.next) = False := eq_false (by omega)
  (refine calls_of_vc [] hm Try.func15 rfl (ts := [2]) rfl (by kernel_rfl) (by simp) ?_; simp (config := { dsimp := false }) only [go_sem, reduceIte, Nat.reduceEqDiff, reduceCtorEq, Nat.reduceAdd, Nat.reduceMul, Int.reduceToNat, Int.reduceLE, Int.reduceLT, Int.reduceEq, Int.reduceNe, Nat.reduceLeDiff, Int.reducePow, Nat.reducePow, Nat.reduceLT, Nat.reduceSub, Nat.reduceMod, Nat.reduceDiv, T.ag_3, T.fo_63_8, T.ib_24, T.ip_24, init_a, h2, stC, n1])
theorem WindowN_ph (h : Heap) : @CallsH Try.prog 15 #[.pointer none] h ⟨fun u _ => u = .int .i64 0⟩ := by
  (refine calls_of_vc [] hm Try.func15 rfl (ts := [2]) rfl (by kernel_rfl) (by simp) ?_; simp (config := { dsimp := false }) only [go_sem, reduceIte, Nat.reduceEqDiff, reduceCtorEq, Nat.reduceAdd, Nat.reduceMul, Int.reduceToNat, Int.reduceLE, Int.reduceLT, Int.reduceEq, Int.reduceNe, Nat.reduceLeDiff, Int.reducePow, Nat.reducePow, Nat.reduceLT, Nat.reduceSub, Nat.reduceMod, Nat.reduceDiv, T.ag_3, T.fo_63_8, T.ib_24, T.ip_24, init_a])
theorem Trip_ph (h : Heap) (p : Nat) (s : St) (hS : StV h p s) :
    @CallsH Try.prog 12 #[.pointer (some ⟨p, 0, none⟩)] h ⟨fun u _ => u = .tuple #[.int .i64 s.smooth, .int .i64 s.vary]⟩ := by
  obtain ⟨wv, o, h1, h2, h3, h4⟩ := hS
  have n1 : (p = h.next) = False := eq_false (by omega)
  (refine calls_of_vc [] hm Try.func12 rfl (ts := [2, 3]) rfl (by kernel_rfl) (by simp) ?_; simp (config := { dsimp := false }) only [go_sem, reduceIte, Nat.reduceEqDiff, reduceCtorEq, Nat.reduceAdd, Nat.reduceMul, Int.reduceToNat, Int.reduceLE, Int.reduceLT, Int.reduceEq, Int.reduceNe, Nat.reduceLeDiff, Int.reducePow, Nat.reducePow, Nat.reduceLT, Nat.reduceSub, Nat.reduceMod, Nat.reduceDiv, T.ag_3, T.fo_63_3, T.fo_63_4, T.ib_24, T.ip_24, init_a, h2, stC, n1])
def fireS (s : St) (at_ : Int) : St × List Int × Bool × Int :=
  if timeOk s at_ then
    let s1 := { s with now := at_ }
    if (timerS s1).2.1 = true ∧ (timerS s1).1 ≤ at_ then
      if (timerS s1).2.2 then (giveS s1 at_, (giveL s1 at_).map (·.num), false, 0)
      else ({ s1 with tries := min (s.tries + 1) 5 }, [], true, 0)
    else (s1, [], false, 0)
  else (s, [], false, 1)
theorem Ok.at {s : St} {at_ : Int} (hs : Ok s) (h1 : s.now ≤ at_) (h2 : at_ ≤ 1099511627776) : Ok { s with now := at_ } :=
  ⟨hs.len, fun x hx => by have := hs.pk x hx; simp only; omega, hs.top, hs.best, by have := hs.now; simp only; omega, hs.smooth, hs.vary, hs.least, hs.last, hs.window, hs.mark, by have := hs.since; simp only; omega, hs.flight, hs.tries⟩
def FP (h : Heap) (p : Nat) (D : List Nat) (r : St × List Int × Bool × Int) (u : Value) (H : Heap) : Prop := ∃ v D2, u = .tuple #[v, .bool r.2.2.1, .int .i64 r.2.2.2] ∧ OwnRow intE H v D2 r.2.1 ∧ (∀ d ∈ D2, h.next ≤ d ∧ d ≠ p) ∧ (∃ D', StR H p D' r.1 ∧ (∀ d ∈ D', d ∈ D ∨ h.next ≤ d) ∧ ∀ d ∈ D2, d ∉ D') ∧ Upd h H (p :: D)
theorem Fire_ph (h : Heap) (p : Nat) (D : List Nat) (s : St) (at_ : Int) (hS : StR h p D s) (hs : Ok s) :
    @CallsH Try.prog 13 #[.pointer (some ⟨p, 0, none⟩), .int .i64 at_] h ⟨fun u H => FP h p D (fireS s at_) u H⟩ := by
  obtain ⟨hpn, hpD, wv, hp, hO⟩ := hS
  (refine calls_of_vc [] hm Try.func13 rfl (ts := [4, 5, 6]) rfl (by kernel_rfl) (by simp) ?_; simp (config := { dsimp := false, maxSteps := 10000000 }) (disch := omega) only [go_sem, reduceIte, Nat.reduceEqDiff, reduceCtorEq, Nat.reduceAdd, Nat.reduceMul, Int.reduceToNat, Int.reduceLE, Int.reduceLT, Int.reduceEq, Int.reduceNe, Nat.reduceLeDiff, Int.reducePow, Nat.reducePow, Nat.reduceLT, Nat.reduceSub, Nat.reduceMod, Nat.reduceDiv, slot_neg, slot_pos, T.ag_3, T.fo_63_12, T.fo_63_13, T.gf_27, T.gf_38, T.gf_39, T.ib_3, T.ip_3, init_a])
  refine CallsH.pure _ rfl (time_ph h.ro p wv s _ at_ (by rw [get_ro, hp, lock_live', lock_cells])) ?_
  cases ht : timeOk s at_ with
  | false =>
    have e : fireS s at_ = (s, [], false, 1) := by unfold fireS; rw [ht]; rfl
    rw [e]
    simp (config := { dsimp := false, maxSteps := 10000000 }) (disch := omega) only [go_sem, reduceIte, Nat.reduceEqDiff, reduceCtorEq, Nat.reduceAdd, Nat.reduceMul, Int.reduceToNat, Int.reduceLE, Int.reduceLT, Int.reduceEq, Int.reduceNe, Nat.reduceLeDiff, Int.reducePow, Nat.reducePow, Nat.reduceLT, Nat.reduceSub, Nat.reduceMod, Nat.reduceDiv, slot_neg, slot_pos, T.ag_3, T.fo_63_12, T.fo_63_13, T.gf_27, T.gf_38, T.gf_39, T.ib_3, T.ip_3]
    exact ⟨_, [], rfl, OwnRow.nil _, by simp, ⟨D, ⟨hpn, hpD, wv, hp, hO⟩, fun d hd => .inl hd, by simp⟩, Upd.refl _ _⟩
  | true =>
    have ht2 : s.now ≤ at_ ∧ at_ ≤ 1099511627776 := by simpa [timeOk] using ht
    have hs1 := hs.at ht2.1 ht2.2
    have e0 : fireS s at_ = if (timerS { s with now := at_ }).2.1 = true ∧ (timerS { s with now := at_ }).1 ≤ at_ then (if (timerS { s with now := at_ }).2.2 then (giveS { s with now := at_ } at_, (giveL { s with now := at_ } at_).map (·.num), false, 0) else ({ s with now := at_, tries := min (s.tries + 1) 5 }, [], true, 0)) else ({ s with now := at_ }, [], false, 0) := by
      unfold fireS; rw [ht]; rfl
    have hMP : MP h p D { s with now := at_ } (h.put p (.live (.cells (stC wv { s with now := at_ }) .own))) := StR.put (s := s) hpn hpD hO rfl
    have hn1 : (h.put p (.live (.cells (stC wv { s with now := at_ }) .own))).next = h.next := rfl
    have hH1 : (h.put p (.live (.cells (stC wv { s with now := at_ }) .own))).get p = .live (.cells (stC wv { s with now := at_ }) .own) := by rw [get_put, if_pos rfl]
    simp (config := { dsimp := false, maxSteps := 10000000 }) (disch := omega) only [go_sem, reduceIte, Nat.reduceEqDiff, reduceCtorEq, Nat.reduceAdd, Nat.reduceMul, Int.reduceToNat, Int.reduceLE, Int.reduceLT, Int.reduceEq, Int.reduceNe, Nat.reduceLeDiff, Int.reducePow, Nat.reducePow, Nat.reduceLT, Nat.reduceSub, Nat.reduceMod, Nat.reduceDiv, slot_neg, slot_pos, T.ag_3, T.fo_63_12, T.fo_63_13, T.gf_27, T.gf_38, T.gf_39, T.ib_3, T.ip_3, hp, stC]
    rw [show ([wv, Value.int IntKind.i64 s.top, Value.int IntKind.i64 s.best, Value.int IntKind.i64 s.smooth, Value.int IntKind.i64 s.vary, Value.int IntKind.i64 s.least, Value.int IntKind.i64 s.last, Value.bool s.had, Value.int IntKind.i64 s.window, Value.int IntKind.i64 s.mark, Value.int IntKind.i64 s.since, Value.int IntKind.i64 s.flight, Value.int IntKind.i64 s.tries, Value.int IntKind.i64 at_] : List Value) = stC wv { s with now := at_ } from rfl]
    obtain ⟨⟨D1, hS1, hD1⟩, hU1⟩ := hMP
    have eq5 : ({ s with now := at_, tries := min (s.tries + 1) 5 } : St) = { ({ s with now := at_ } : St) with tries := min (s.tries + 1) 5 } := rfl
    have hat0 := hs.now
    have hnow : ({ s with now := at_ } : St).now = at_ := rfl
    rw [eq5] at e0
    generalize h.put p (.live (.cells (stC wv { s with now := at_ }) .own)) = H1 at hS1 hU1 hH1 hn1 ⊢
    have hbt : ({ s with now := at_ } : St).tries = s.tries := rfl
    generalize ({ s with now := at_ } : St) = s1 at *
    refine CallsH.pure _ rfl (timer_at _ p s1 hS1.view.ro hs1) ?_
    generalize timerS s1 = T at e0 ⊢
    obtain ⟨when, ok, lost⟩ := T
    cases ok with
    | false =>
      simp (config := { dsimp := false, maxSteps := 10000000 }) (disch := omega) only [go_sem, reduceIte, Nat.reduceEqDiff, reduceCtorEq, Nat.reduceAdd, Nat.reduceMul, Int.reduceToNat, Int.reduceLE, Int.reduceLT, Int.reduceEq, Int.reduceNe, Nat.reduceLeDiff, Int.reducePow, Nat.reducePow, Nat.reduceLT, Nat.reduceSub, Nat.reduceMod, Nat.reduceDiv, slot_neg, slot_pos, T.ag_3, T.fo_63_12, T.fo_63_13, T.gf_27, T.gf_38, T.gf_39, T.ib_3, T.ip_3, tup3]
      rw [e0, if_neg (by simp)]
      exact ⟨_, [], rfl, OwnRow.nil _, by simp, ⟨D1, hS1, hD1, by simp⟩, hU1⟩
    | true =>
      by_cases hw : at_ < when
      · simp (config := { dsimp := false, maxSteps := 10000000 }) (disch := omega) only [go_sem, reduceIte, Nat.reduceEqDiff, reduceCtorEq, Nat.reduceAdd, Nat.reduceMul, Int.reduceToNat, Int.reduceLE, Int.reduceLT, Int.reduceEq, Int.reduceNe, Nat.reduceLeDiff, Int.reducePow, Nat.reducePow, Nat.reduceLT, Nat.reduceSub, Nat.reduceMod, Nat.reduceDiv, slot_neg, slot_pos, T.ag_3, T.fo_63_12, T.fo_63_13, T.gf_27, T.gf_38, T.gf_39, T.ib_3, T.ip_3, tup3, hw]
        rw [e0, if_neg (by simp; omega)]
        exact ⟨_, [], rfl, OwnRow.nil _, by simp, ⟨D1, hS1, hD1, by simp⟩, hU1⟩
      · rw [e0, if_pos ⟨rfl, by simp only; omega⟩]
        simp (config := { dsimp := false, maxSteps := 10000000 }) (disch := omega) only [go_sem, reduceIte, Nat.reduceEqDiff, reduceCtorEq, Nat.reduceAdd, Nat.reduceMul, Int.reduceToNat, Int.reduceLE, Int.reduceLT, Int.reduceEq, Int.reduceNe, Nat.reduceLeDiff, Int.reducePow, Nat.reducePow, Nat.reduceLT, Nat.reduceSub, Nat.reduceMod, Nat.reduceDiv, slot_neg, slot_pos, T.ag_3, T.fo_63_12, T.fo_63_13, T.gf_27, T.gf_38, T.gf_39, T.ib_3, T.ip_3, tup3, hw]
        cases lost with
        | true =>
          simp (config := { dsimp := false, maxSteps := 10000000 }) (disch := omega) only [go_sem, reduceIte, Nat.reduceEqDiff, reduceCtorEq, Nat.reduceAdd, Nat.reduceMul, Int.reduceToNat, Int.reduceLE, Int.reduceLT, Int.reduceEq, Int.reduceNe, Nat.reduceLeDiff, Int.reducePow, Nat.reducePow, Nat.reduceLT, Nat.reduceSub, Nat.reduceMod, Nat.reduceDiv, slot_neg, slot_pos, T.ag_3, T.fo_63_12, T.fo_63_13, T.gf_27, T.gf_38, T.gf_39, T.ib_3, T.ip_3]
          refine (give_ph H1 p D1 s1 at_ hS1 hs1 (by omega)).mono fun u H2 ⟨D2, f1, f2, ⟨D3, f3, f4, f5⟩, f6⟩ => ?_
          have hD0 := hS1.lt
          obtain ⟨A, st, hu⟩ := f1.form
          simp (config := { dsimp := false, maxSteps := 10000000 }) (disch := omega) only [go_sem, reduceIte, Nat.reduceEqDiff, reduceCtorEq, Nat.reduceAdd, Nat.reduceMul, Int.reduceToNat, Int.reduceLE, Int.reduceLT, Int.reduceEq, Int.reduceNe, Nat.reduceLeDiff, Int.reducePow, Nat.reducePow, Nat.reduceLT, Nat.reduceSub, Nat.reduceMod, Nat.reduceDiv, slot_neg, slot_pos, T.ag_3, T.fo_63_12, T.fo_63_13, T.gf_27, T.gf_38, T.gf_39, T.ib_3, T.ip_3]
          refine ⟨u, D2, rfl, f1, fun d hd => by have := f2 d hd; omega, ⟨D3, f3, fun d hd => ?_, f5⟩, hU1.trans f6 fun d hd => ?_⟩
          · rcases f4 d hd with h1 | h1
            · exact hD1 d h1
            · right; omega
          · rcases List.mem_cons.1 hd with h1 | h1
            · exact .inl (by simp [h1])
            · exact (hD1 d h1).imp_left (by intro h; simp [h])
        | false =>
          have b := hs.tries
          have w : IntKind.i64.wrap (s.tries + 1) = s.tries + 1 := i64wrap (by omega) (by omega)
          simp (config := { dsimp := false, maxSteps := 10000000 }) (disch := omega) only [go_sem, reduceIte, Nat.reduceEqDiff, reduceCtorEq, Nat.reduceAdd, Nat.reduceMul, Int.reduceToNat, Int.reduceLE, Int.reduceLT, Int.reduceEq, Int.reduceNe, Nat.reduceLeDiff, Int.reducePow, Nat.reducePow, Nat.reduceLT, Nat.reduceSub, Nat.reduceMod, Nat.reduceDiv, slot_neg, slot_pos, T.ag_3, T.fo_63_12, T.fo_63_13, T.gf_27, T.gf_38, T.gf_39, T.ib_3, T.ip_3, hH1, stC, hbt, w, minl]
          obtain ⟨hpn1, hpD1, wv2, hp2, hO2⟩ := hS1
          obtain rfl : wv2 = wv := by rw [hH1] at hp2; simp only [stC] at hp2; injection hp2 with e1; injection e1 with e1; injection e1 with e1; exact e1.symm
          obtain ⟨⟨D3, hS3, hD3⟩, hU3⟩ : MP H1 p D1 { s1 with tries := min (s.tries + 1) 5 } (H1.put p (.live (.cells (stC wv2 { s1 with tries := min (s.tries + 1) 5 }) .own))) := StR.put (s := s1) hpn1 hpD1 hO2 rfl
          refine ⟨_, [], rfl, OwnRow.nil _, by simp, ⟨D3, hS3, fun d hd => ?_, by simp⟩, hU1.trans hU3 fun d hd => ?_⟩
          · rcases hD3 d hd with h1 | h1
            · exact hD1 d h1
            · right; omega
          · rcases List.mem_cons.1 hd with h1 | h1
            · exact .inl (by simp [h1])
            · exact (hD1 d h1).imp_left (by intro h; simp [h])
end Ph
