import Derived.Test.YtliblomkhapibaaL25
set_option maxRecDepth 100000
set_option maxHeartbeats 4000000
set_option linter.unusedSimpArgs false
set_option linter.unusedVariables false
namespace Ph
open Go Go.Proofs
attribute [local irreducible] Value.cells
attribute [local go_sem ↓] y_move y_assign y_pick y_nil y_bin y_un y_fa y_field y_ext y_ia y_ix y_slice y_build y_mf y_load y_len y_min y_max y_conv y_bs y_mk y_alloc y_box y_store y_clear y_app y_callf y_callt s_move s_assign s_pick s_nil s_bin s_un s_fa s_field s_ext s_ia s_ix s_slice s_conv s_build s_bs s_mf s_alloc s_box s_load s_store s_len s_clear s_min s_max s_app s_call q_call q_move q_assign q_pick q_nil q_bin q_un q_fa q_field q_ext q_ia q_ix q_slice q_conv q_build q_mf q_load q_len q_min q_max l_nil l_move l_assign l_pick l_nilc l_bin l_un l_fa l_field l_ext l_ia l_ix l_slice l_conv l_build l_mf l_load l_len l_min l_max l_call put_eq putN_eq o_nil o_plain o_gate v_nil v_plain v_gate vc_skip vc_region vc_seq vc_cond vc_block vc_loop vc_rf vc_exit vc_ret blk_normal blk_ret blk_exit on_normal on_ret on_exit vc_drawn draw_q s_mk l_bs l_mk l_alloc l_box l_store l_app l_clear pl_done pl_takeS pl_take pl_alt pl_stop one_plain one_gate
attribute [local go_sem] clear_nil clear_sl onAgg_a onTuple_t onFn_f onFn_y onFunc_f c_int c_nil c_sl c_str sl_sl sl_nil sl_str ix_str ix_agg n_nil n_sl n_str app_eq k_nil k_sl len_sl len_str upd_some upd_none ev_tmp ev_const ev_func rd_some gdst_eq otmp_t otmp_c get_put get_alloc next_put next_alloc get_app next_app init_a resV1 resV2 onPtr_ptr onBool_b onInt_i onSlice_s onSome_s onCells_c lett_eq gate_tt gate_tf gate_ff gate_ft gate_dt gate_df also_eq bin un minmax io_none io_some bo_none bo_some partOf List.getElem?_cons_zero List.getElem?_cons_succ List.getElem?_toArray Option.map_some Option.map_none Option.bind_some ne_eq not_true_eq_false not_false_eq_true false_implies true_implies and_true true_and and_self Bool.false_eq_true Nat.zero_add Nat.add_zero List.size_toArray List.length_cons List.length_nil List.map_toArray List.map_cons List.map_nil Array.getD_eq_getD_getElem? Option.getD_some Bool.not_true Bool.not_false Bool.not_eq_true Option.isNone_some Option.isNone_none List.append_toArray List.append_nil List.nil_append List.cons_append decide_true decide_false in_nil in_cons Bool.and_false Bool.and_true Bool.or_false Bool.true_or Bool.false_or get_mask next_mask get_unmask next_unmask ac_move ac_assign ac_pick ac_nil ac_bin ac_un ac_fa ac_field ac_ext ac_ia ac_ix ac_slice ac_build ac_mf ac_call ac_load ac_conv accP_p accS_s accS_n accS_i accS_t fixed_ro fixed_lock fixed_own get_ro next_ro lock_live' lock_cells List.mem_cons List.not_mem_nil or_false false_or or_true true_or and_false false_and IntKind.bits Int.natCast_zero Int.natCast_one size_str data_str list_str mk_str ext_str app_str bytes_str w_byte w_byteu Int.toNat_natCast Int.toNat_zero Int.toNat_one Nat.sub_zero ge_iff_le gt_iff_lt Nat.le_refl Int.le_refl List.drop_zero Int.ofNat_eq_natCast Int.natCast_nonneg Int.sub_zero oc_int oc_bool oc_str oc_ptr oc_sl oc_map oc_func List.set_cons_zero List.set_cons_succ Nat.mul_one List.all_cons List.all_nil Bool.and_self res_nil res_tmp res_cell tup_one tup_two tup_nil fill_nil repl_zero cells_agg List.append_eq List.toList_toArray Nat.zero_mul Nat.one_mul repl_one repl_two onSome_build fill_cons onSome_lit splice_eq cells_int cells_bool cells_str cells_ptr cells_sl cells_map cells_func loadK_n loadK_s load_k storeK_n storeK_s store_k all_arr List.take_zero List.take_succ_cons List.drop_succ_cons List.take_nil List.drop_nil lk_own lk_ro lk_lock lk_lk fixed_lk gate_nt gate_nf gate3_b gate3_u undef Bool.true_and Bool.false_and nx_l nx_r nx_lt put_put resV0
/-! LossEvents: the document's Sent and give. -/
theorem RefR.own {h : Heap} {m : Nat} {D : List Nat} {L : List RP} {s : St} (hR : RefR h m D L s) {k : Nat} {x : RP} (hx : L[k]? = some x) :
    ∃ q off vs, D = [q] ∧ m < h.next ∧ q < h.next ∧ m ≠ q ∧ h.get m = .live (.cells (refC (.slice (some ⟨q, off, none⟩) L.length 5) s) .own) ∧ h.get q = .live (.cells vs .own) ∧ RowV rpE vs off L := by
  obtain ⟨h1, h2, w, h3, h4⟩ := hR
  rcases h4 with ⟨_, hn, _⟩ | ⟨q, off, vs, hD, hq, e, hg, hV⟩
  · rw [hn] at hx; simp at hx
  · refine ⟨q, off, vs, hD, h1, hq, fun e2 => h2 (by rw [hD, e2]; simp), e ▸ h3, hg, hV⟩
theorem lastAsk_snoc (l : List Pk) (x : Pk) : lastAsk (l ++ [x]) = if x.asks then some x else lastAsk l := by
  unfold lastAsk
  rw [List.reverse_append, List.reverse_singleton, List.singleton_append, List.find?_cons]
  cases x.asks <;> rfl
def hitB (s : St) (l : List Pk) : Bool := match lastAsk l with | some x => decide (s.since < x.at_) | none => false
theorem hit_snoc (s : St) (l : List Pk) (x : Pk) : hitB s (l ++ [x]) = if x.asks then decide (s.since < x.at_) else hitB s l := by
  unfold hitB
  rw [lastAsk_snoc]
  cases x.asks <;> rfl
theorem giveS_hit (s : St) (at_ : Int) : giveS s at_ = if hitB s (giveL s at_) then hitS (restS s at_) at_ else restS s at_ := by
  unfold giveS hitB
  cases lastAsk (giveL s at_) with
  | none => rfl
  | some x =>
    simp only
    by_cases h : s.since < x.at_
    · rw [if_pos h, if_pos (decide_eq_true h)]
    · rw [if_neg h, if_neg (by simpa using h)]
theorem rsent_ph (h : Heap) (m : Nat) (D : List Nat) (L : List RP) (s : St) (num size at_ : Int) (asks : Bool) (hR : RefR h m D L s) (ht : s.top = topOf L) (hl : L.length < 100000) :
    @CallsH Try.prog 20 #[.pointer (some ⟨m, 0, none⟩), .int .i64 num, .int .i64 size, .bool asks, .int .i64 at_] h ⟨fun u H => u = .int .i64 (if sentOk s num size at_ then 0 else 1) ∧
      (∃ D', RefR H m D' (if sentOk s num size at_ then L ++ [⟨num, size, asks, at_, true⟩] else L) (if sentOk s num size at_ then sentS s num size asks at_ else s) ∧ ∀ d ∈ D', d ∈ D ∨ h.next ≤ d) ∧ Upd h H (m :: D)⟩ := by
  have hV := hR.view
  have hR0 := hR
  obtain ⟨hmn, hmD, w, hg, hO⟩ := hR
  have hw1 := hO.row.one
  (refine calls_of_vc [] hm Try.func20 rfl (ts := [10]) rfl (by kernel_rfl) (by simp) ?_; simp (config := { dsimp := false, maxSteps := 10000000 }) (disch := omega) only [go_sem, reduceIte, Nat.reduceEqDiff, reduceCtorEq, Nat.reduceAdd, Nat.reduceMul, Int.reduceToNat, Int.reduceLE, Int.reduceLT, Int.reduceEq, Int.reduceNe, Nat.reduceLeDiff, Int.reducePow, Nat.reducePow, Nat.reduceLT, Nat.reduceSub, Nat.reduceMod, Nat.reduceDiv, slot_neg, slot_pos, T.ag_3, T.ag_57, T.eb_57, T.ez_57, T.fo_59_0, T.fo_59_11, T.gf_40, T.ib_3, T.ii_57, T.ip_3, T.pl_78, T.s8_57, T.sl_57, T.st_57, T.un_57, T.zo_78, init_a, hg, refC])
  refine CallsH.pure _ rfl (rtop_ph _ m L s hV.ro (by omega)) ?_
  rw [← ht]
  have no : sentOk s num size at_ = false → (∃ D', RefR h m D' (if sentOk s num size at_ then L ++ [⟨num, size, asks, at_, true⟩] else L) (if sentOk s num size at_ then sentS s num size asks at_ else s) ∧ ∀ d ∈ D', d ∈ D ∨ h.next ≤ d) ∧ Upd h h (m :: D) := fun e => by
    rw [e]; exact ⟨⟨D, hR0, fun d hd => .inl hd⟩, Upd.refl _ _⟩
  have bad : ¬ (s.now ≤ at_ ∧ at_ ≤ 1099511627776 ∧ s.top < num ∧ num ≤ 1099511627776 ∧ 1 ≤ size ∧ size ≤ 65535) → sentOk s num size at_ = false := fun e => by
    unfold sentOk timeOk
    rw [← Bool.decide_and]
    exact decide_eq_false fun h2 => e ⟨h2.1.1, h2.1.2, h2.2.1, h2.2.2.1, h2.2.2.2.1, h2.2.2.2.2⟩
  by_cases c1 : num ≤ s.top
  · have e := bad (by omega)
    have c1' : (num ≤ s.top) = True := eq_true c1
    simp (config := { dsimp := false, maxSteps := 10000000 }) (disch := omega) only [go_sem, reduceIte, Nat.reduceEqDiff, reduceCtorEq, Nat.reduceAdd, Nat.reduceMul, Int.reduceToNat, Int.reduceLE, Int.reduceLT, Int.reduceEq, Int.reduceNe, Nat.reduceLeDiff, Int.reducePow, Nat.reducePow, Nat.reduceLT, Nat.reduceSub, Nat.reduceMod, Nat.reduceDiv, slot_neg, slot_pos, T.ag_3, T.ag_57, T.eb_57, T.ez_57, T.fo_59_0, T.fo_59_11, T.gf_40, T.ib_3, T.ii_57, T.ip_3, T.pl_78, T.s8_57, T.sl_57, T.st_57, T.un_57, T.zo_78, hg, refC, c1']
    have := no e
    rw [e] at this ⊢
    exact ⟨rfl, this⟩
  have c1' : (num ≤ s.top) = False := eq_false c1
  by_cases c2 : 1099511627776 < num
  · have e := bad (by omega)
    have c2' : (1099511627776 < num) = True := eq_true c2
    simp (config := { dsimp := false, maxSteps := 10000000 }) (disch := omega) only [go_sem, reduceIte, Nat.reduceEqDiff, reduceCtorEq, Nat.reduceAdd, Nat.reduceMul, Int.reduceToNat, Int.reduceLE, Int.reduceLT, Int.reduceEq, Int.reduceNe, Nat.reduceLeDiff, Int.reducePow, Nat.reducePow, Nat.reduceLT, Nat.reduceSub, Nat.reduceMod, Nat.reduceDiv, slot_neg, slot_pos, T.ag_3, T.ag_57, T.eb_57, T.ez_57, T.fo_59_0, T.fo_59_11, T.gf_40, T.ib_3, T.ii_57, T.ip_3, T.pl_78, T.s8_57, T.sl_57, T.st_57, T.un_57, T.zo_78, hg, refC, c1', c2']
    have := no e
    rw [e] at this ⊢
    exact ⟨rfl, this⟩
  have c2' : (1099511627776 < num) = False := eq_false c2
  by_cases c3 : size < 1
  · have e := bad (by omega)
    have c3' : (size < 1) = True := eq_true c3
    simp (config := { dsimp := false, maxSteps := 10000000 }) (disch := omega) only [go_sem, reduceIte, Nat.reduceEqDiff, reduceCtorEq, Nat.reduceAdd, Nat.reduceMul, Int.reduceToNat, Int.reduceLE, Int.reduceLT, Int.reduceEq, Int.reduceNe, Nat.reduceLeDiff, Int.reducePow, Nat.reducePow, Nat.reduceLT, Nat.reduceSub, Nat.reduceMod, Nat.reduceDiv, slot_neg, slot_pos, T.ag_3, T.ag_57, T.eb_57, T.ez_57, T.fo_59_0, T.fo_59_11, T.gf_40, T.ib_3, T.ii_57, T.ip_3, T.pl_78, T.s8_57, T.sl_57, T.st_57, T.un_57, T.zo_78, hg, refC, c1', c2', c3']
    have := no e
    rw [e] at this ⊢
    exact ⟨rfl, this⟩
  have c3' : (size < 1) = False := eq_false c3
  by_cases c4 : 65535 < size
  · have e := bad (by omega)
    have c4' : (65535 < size) = True := eq_true c4
    simp (config := { dsimp := false, maxSteps := 10000000 }) (disch := omega) only [go_sem, reduceIte, Nat.reduceEqDiff, reduceCtorEq, Nat.reduceAdd, Nat.reduceMul, Int.reduceToNat, Int.reduceLE, Int.reduceLT, Int.reduceEq, Int.reduceNe, Nat.reduceLeDiff, Int.reducePow, Nat.reducePow, Nat.reduceLT, Nat.reduceSub, Nat.reduceMod, Nat.reduceDiv, slot_neg, slot_pos, T.ag_3, T.ag_57, T.eb_57, T.ez_57, T.fo_59_0, T.fo_59_11, T.gf_40, T.ib_3, T.ii_57, T.ip_3, T.pl_78, T.s8_57, T.sl_57, T.st_57, T.un_57, T.zo_78, hg, refC, c1', c2', c3', c4']
    have := no e
    rw [e] at this ⊢
    exact ⟨rfl, this⟩
  have c4' : (65535 < size) = False := eq_false c4
  by_cases c5 : at_ < s.now
  · have e := bad (by omega)
    have c5' : (at_ < s.now) = True := eq_true c5
    simp (config := { dsimp := false, maxSteps := 10000000 }) (disch := omega) only [go_sem, reduceIte, Nat.reduceEqDiff, reduceCtorEq, Nat.reduceAdd, Nat.reduceMul, Int.reduceToNat, Int.reduceLE, Int.reduceLT, Int.reduceEq, Int.reduceNe, Nat.reduceLeDiff, Int.reducePow, Nat.reducePow, Nat.reduceLT, Nat.reduceSub, Nat.reduceMod, Nat.reduceDiv, slot_neg, slot_pos, T.ag_3, T.ag_57, T.eb_57, T.ez_57, T.fo_59_0, T.fo_59_11, T.gf_40, T.ib_3, T.ii_57, T.ip_3, T.pl_78, T.s8_57, T.sl_57, T.st_57, T.un_57, T.zo_78, hg, refC, c1', c2', c3', c4', c5']
    have := no e
    rw [e] at this ⊢
    exact ⟨rfl, this⟩
  have c5' : (at_ < s.now) = False := eq_false c5
  by_cases c6 : 1099511627776 < at_
  · have e := bad (by omega)
    have c6' : (1099511627776 < at_) = True := eq_true c6
    simp (config := { dsimp := false, maxSteps := 10000000 }) (disch := omega) only [go_sem, reduceIte, Nat.reduceEqDiff, reduceCtorEq, Nat.reduceAdd, Nat.reduceMul, Int.reduceToNat, Int.reduceLE, Int.reduceLT, Int.reduceEq, Int.reduceNe, Nat.reduceLeDiff, Int.reducePow, Nat.reducePow, Nat.reduceLT, Nat.reduceSub, Nat.reduceMod, Nat.reduceDiv, slot_neg, slot_pos, T.ag_3, T.ag_57, T.eb_57, T.ez_57, T.fo_59_0, T.fo_59_11, T.gf_40, T.ib_3, T.ii_57, T.ip_3, T.pl_78, T.s8_57, T.sl_57, T.st_57, T.un_57, T.zo_78, hg, refC, c1', c2', c3', c4', c5', c6']
    have := no e
    rw [e] at this ⊢
    exact ⟨rfl, this⟩
  have c6' : (1099511627776 < at_) = False := eq_false c6
  have e : sentOk s num size at_ = true := by
    unfold sentOk timeOk
    rw [← Bool.decide_and]
    exact decide_eq_true (by omega)
  simp (config := { dsimp := false, maxSteps := 10000000 }) (disch := omega) only [go_sem, reduceIte, Nat.reduceEqDiff, reduceCtorEq, Nat.reduceAdd, Nat.reduceMul, Int.reduceToNat, Int.reduceLE, Int.reduceLT, Int.reduceEq, Int.reduceNe, Nat.reduceLeDiff, Int.reducePow, Nat.reducePow, Nat.reduceLT, Nat.reduceSub, Nat.reduceMod, Nat.reduceDiv, slot_neg, slot_pos, T.ag_3, T.ag_57, T.eb_57, T.ez_57, T.fo_59_0, T.fo_59_11, T.gf_40, T.ib_3, T.ii_57, T.ip_3, T.pl_78, T.s8_57, T.sl_57, T.st_57, T.un_57, T.zo_78, hg, refC, c1', c2', c3', c4', c5', c6', hw1.1, hw1.2]
  refine app_own (E := rpE) (ns := [⟨num, size, asks, at_, true⟩]) (hO.keep (by simp (config := { dsimp := false }) (disch := omega) only [get_alloc, get_put, get_app, next_alloc, next_put, next_app, get_mask, get_unmask, next_mask, next_unmask, List.mem_cons, List.not_mem_nil, or_false, true_or, or_true, false_or, and_true, true_and, and_false, false_and, not_true_eq_false, not_false_eq_true, ne_eq, reduceIte, slot_neg, slot_pos]; omega) fun d hd => ?_) rfl rfl rfl (by simp; omega) fun u H2 D2 hO2 hU2 hD2 => ?_
  · have := hO.lt d hd
    have : ¬ d = m := fun e => hmD (e ▸ hd)
    simp (config := { dsimp := false }) (disch := omega) only [get_alloc, get_put, get_app, next_alloc, next_put, next_app, get_mask, get_unmask, next_mask, next_unmask, List.mem_cons, List.not_mem_nil, or_false, true_or, or_true, false_or, and_true, true_and, and_false, false_and, not_true_eq_false, not_false_eq_true, ne_eq, reduceIte, slot_neg, slot_pos]
  have hup := hO2.row.one
  have hDm : m ∉ D2 := fun hd => (hD2 _ hd).elim hmD (by simp (config := { dsimp := false }) (disch := omega) only [get_alloc, get_put, get_app, next_alloc, next_put, next_app, get_mask, get_unmask, next_mask, next_unmask, List.mem_cons, List.not_mem_nil, or_false, true_or, or_true, false_or, and_true, true_and, and_false, false_and, not_true_eq_false, not_false_eq_true, ne_eq, reduceIte, slot_neg, slot_pos]; omega)
  have gp : H2.get m = .live (.cells (refC w { s with now := at_ }) .own) := by
    rw [hU2.2 m (by simp (config := { dsimp := false }) (disch := omega) only [get_alloc, get_put, get_app, next_alloc, next_put, next_app, get_mask, get_unmask, next_mask, next_unmask, List.mem_cons, List.not_mem_nil, or_false, true_or, or_true, false_or, and_true, true_and, and_false, false_and, not_true_eq_false, not_false_eq_true, ne_eq, reduceIte, slot_neg, slot_pos]; omega) hmD]; simp (config := { dsimp := false }) (disch := omega) only [get_alloc, get_put, get_app, next_alloc, next_put, next_app, get_mask, get_unmask, next_mask, next_unmask, List.mem_cons, List.not_mem_nil, or_false, true_or, or_true, false_or, and_true, true_and, and_false, false_and, not_true_eq_false, not_false_eq_true, ne_eq, reduceIte, slot_neg, slot_pos]; rfl
  have gn : h.next + 1 ≤ H2.next := hU2.1
  have hU3 : Upd h H2 (m :: D) := (((Upd.refl h (m :: D)).put (.inl (by simp))).allocs).trans hU2 fun d hd => .inl (by simp [hd])
  simp (config := { dsimp := false, maxSteps := 10000000 }) (disch := omega) only [go_sem, reduceIte, Nat.reduceEqDiff, reduceCtorEq, Nat.reduceAdd, Nat.reduceMul, Int.reduceToNat, Int.reduceLE, Int.reduceLT, Int.reduceEq, Int.reduceNe, Nat.reduceLeDiff, Int.reducePow, Nat.reducePow, Nat.reduceLT, Nat.reduceSub, Nat.reduceMod, Nat.reduceDiv, slot_neg, slot_pos, T.ag_3, T.ag_57, T.eb_57, T.ez_57, T.fo_59_0, T.fo_59_11, T.gf_40, T.ib_3, T.ii_57, T.ip_3, T.pl_78, T.s8_57, T.sl_57, T.st_57, T.un_57, T.zo_78, gp, refC, hup.1]
  rw [e]
  refine ⟨rfl, ⟨D2, ⟨?_, hDm, u, ?_, hO2.keep (Nat.le_refl _) fun d hd => ?_⟩, fun d hd => (hD2 d hd).imp_right (by simp (config := { dsimp := false }) (disch := omega) only [get_alloc, get_put, get_app, next_alloc, next_put, next_app, get_mask, get_unmask, next_mask, next_unmask, List.mem_cons, List.not_mem_nil, or_false, true_or, or_true, false_or, and_true, true_and, and_false, false_and, not_true_eq_false, not_false_eq_true, ne_eq, reduceIte, slot_neg, slot_pos]; omega)⟩, hU3.put (.inl (by simp))⟩
  · rw [next_put]; omega
  · rw [get_put, if_pos rfl]; rfl
  · rw [get_put, if_neg (fun e : d = m => hDm (e ▸ hd))]
theorem rgive_ph (h : Heap) (m : Nat) (D : List Nat) (L : List RP) (s : St) (at_ : Int) (hR : RefR h m D L s) (hs : Ok s) (hw : s.waits = waitsOf L) (hl : L.length ≤ 100000) (hat : 0 ≤ at_ ∧ at_ ≤ 1099511627776) :
    @CallsH Try.prog 42 #[.pointer (some ⟨m, 0, none⟩), .int .i64 at_] h ⟨fun u H => ∃ D2, OwnRow intE H u D2 ((giveL s at_).map (·.num)) ∧ (∀ d ∈ D2, h.next ≤ d) ∧
      RefR H m D (L.map (offX (giveP s.best (at_ - waitT s)))) (giveS s at_) ∧ Upd h H (m :: D)⟩ := by
  have b1 := hs.smooth
  have b2 := hs.last
  have b3 := hs.best
  have b4 := hs.top
  have hwt : 1 ≤ waitT s ∧ waitT s ≤ 1300000000000 := by unfold waitT; omega
  have w1 : IntKind.i64.wrap (at_ - waitT s) = at_ - waitT s := i64wrap (by omega) (by omega)
  have w2 : IntKind.i64.wrap (s.best - 3) = s.best - 3 := i64wrap (by omega) (by omega)
  obtain ⟨g, hgd⟩ : ∃ g, giveP s.best (at_ - waitT s) = g := ⟨_, rfl⟩
  rw [hgd]
  have hgx : ∀ x : Pk, g x = decide (x.num ≤ s.best - 3 ∨ (x.num < s.best ∧ x.at_ ≤ at_ - waitT s)) := fun x => by rw [← hgd]; rfl
  have hgl : giveL s at_ = (waitsOf L).filter g := by unfold giveL; rw [hw, hgd]
  (refine calls_of_codeR (rs := [.tmp 4]) Try.func42 rfl rfl (by simp) ?_)
  (refine CodeH.seq' (CodeH.of_vc [] hm (by kernel_rfl) ?_); simp (config := { dsimp := false, maxSteps := 10000000 }) (disch := omega) only [go_sem, reduceIte, Nat.reduceEqDiff, reduceCtorEq, Nat.reduceAdd, Nat.reduceMul, Int.reduceToNat, Int.reduceLE, Int.reduceLT, Int.reduceEq, Int.reduceNe, Nat.reduceLeDiff, Int.reducePow, Nat.reducePow, Nat.reduceLT, Nat.reduceSub, Nat.reduceMod, Nat.reduceDiv, slot_neg, slot_pos, T.ag_3, T.ag_4, T.ag_57, T.ag_78, T.eb_22, T.es_57, T.ez_22, T.fo_59_0, T.fo_59_1, T.fo_59_7, T.fo_59_8, T.fo_59_9, T.fo_78_0, T.fo_78_2, T.fo_78_3, T.fo_78_4, T.gf_43, T.ib_3, T.ii_22, T.ii_57, T.ip_3, T.s8_22, T.s8_57, T.sl_22, T.sl_57, T.st_22, T.st_57, T.un_22, T.un_57, T.zo_78, init_a])
  (refine CodeH.seq' (CodeH.of_vc [] hm (by kernel_rfl) ?_); simp (config := { dsimp := false, maxSteps := 10000000 }) (disch := omega) only [go_sem, reduceIte, Nat.reduceEqDiff, reduceCtorEq, Nat.reduceAdd, Nat.reduceMul, Int.reduceToNat, Int.reduceLE, Int.reduceLT, Int.reduceEq, Int.reduceNe, Nat.reduceLeDiff, Int.reducePow, Nat.reducePow, Nat.reduceLT, Nat.reduceSub, Nat.reduceMod, Nat.reduceDiv, slot_neg, slot_pos, T.ag_3, T.ag_4, T.ag_57, T.ag_78, T.eb_22, T.es_57, T.ez_22, T.fo_59_0, T.fo_59_1, T.fo_59_7, T.fo_59_8, T.fo_59_9, T.fo_78_0, T.fo_78_2, T.fo_78_3, T.fo_78_4, T.gf_43, T.ib_3, T.ii_22, T.ii_57, T.ip_3, T.s8_22, T.s8_57, T.sl_22, T.sl_57, T.st_22, T.st_57, T.un_22, T.un_57, T.zo_78, init_a])
  (refine CodeH.seq' (CodeH.of_vc [] hm (by kernel_rfl) ?_); simp (config := { dsimp := false, maxSteps := 10000000 }) (disch := omega) only [go_sem, reduceIte, Nat.reduceEqDiff, reduceCtorEq, Nat.reduceAdd, Nat.reduceMul, Int.reduceToNat, Int.reduceLE, Int.reduceLT, Int.reduceEq, Int.reduceNe, Nat.reduceLeDiff, Int.reducePow, Nat.reducePow, Nat.reduceLT, Nat.reduceSub, Nat.reduceMod, Nat.reduceDiv, slot_neg, slot_pos, T.ag_3, T.ag_4, T.ag_57, T.ag_78, T.eb_22, T.es_57, T.ez_22, T.fo_59_0, T.fo_59_1, T.fo_59_7, T.fo_59_8, T.fo_59_9, T.fo_78_0, T.fo_78_2, T.fo_78_3, T.fo_78_4, T.gf_43, T.ib_3, T.ii_22, T.ii_57, T.ip_3, T.s8_22, T.s8_57, T.sl_22, T.sl_57, T.st_22, T.st_57, T.un_22, T.un_57, T.zo_78, init_a])
  refine CodeH.seq (fun r H => ∃ Do, Upd h H (m :: D) ∧ RefR H m D (mid g L L.length) s ∧ OwnRow intE H (r 5) Do ((giveL s at_).map (·.num)) ∧ (∀ d ∈ Do, h.next ≤ d) ∧ r 0 = .pointer (some ⟨m, 0, none⟩) ∧ r 1 = .int .i64 at_ ∧ r 6 = .bool (hitB s (giveL s at_))) ?_ ?_
  · (refine CodeH.of_vc [] hm (by kernel_rfl) ?_; simp (config := { dsimp := false, maxSteps := 10000000 }) (disch := omega) only [go_sem, reduceIte, Nat.reduceEqDiff, reduceCtorEq, Nat.reduceAdd, Nat.reduceMul, Int.reduceToNat, Int.reduceLE, Int.reduceLT, Int.reduceEq, Int.reduceNe, Nat.reduceLeDiff, Int.reducePow, Nat.reducePow, Nat.reduceLT, Nat.reduceSub, Nat.reduceMod, Nat.reduceDiv, slot_neg, slot_pos, T.ag_3, T.ag_4, T.ag_57, T.ag_78, T.eb_22, T.es_57, T.ez_22, T.fo_59_0, T.fo_59_1, T.fo_59_7, T.fo_59_8, T.fo_59_9, T.fo_78_0, T.fo_78_2, T.fo_78_3, T.fo_78_4, T.gf_43, T.ib_3, T.ii_22, T.ii_57, T.ip_3, T.s8_22, T.s8_57, T.sl_22, T.sl_57, T.st_22, T.st_57, T.un_22, T.un_57, T.zo_78, init_a])
    refine loop_introC (fun r H => ∃ (i : Nat) (Do : List Nat), i ≤ L.length ∧ Upd h H (m :: D) ∧ RefR H m D (mid g L i) s ∧ OwnRow intE H (r 5) Do (((waitsOf (L.take i)).filter g).map (·.num)) ∧ (∀ d ∈ Do, h.next ≤ d) ∧ r 0 = .pointer (some ⟨m, 0, none⟩) ∧ r 1 = .int .i64 at_ ∧ r 6 = .bool (hitB s ((waitsOf (L.take i)).filter g)) ∧ r 7 = .int .i64 i) (fun r _ => match r 7 with | .int _ i => L.length - i.toNat | _ => 0) ?_ ?_
    · exact ⟨0, [], by omega, Upd.refl _ _, by rw [mid_zero]; exact hR, by simpa [upd, waitsOf] using OwnRow.nil _, by simp, by simp [upd, initR], by simp [upd, initR], by simp [upd, hitB, lastAsk, waitsOf], by simp [upd]⟩
    · rintro n hok r H ⟨i, Do, hi, hU, hRi, hO, hDo, q0, q1, q6, q7⟩
      generalize q5 : r 5 = v5 at *
      by_cases hil : i < L.length
      · have hlt : ((i : Int) < (L.length : Int)) = True := eq_true (by omega)
        have hx0 : L[i]? = some L[i] := List.getElem?_eq_getElem hil
        have hon := hs.pk L[i].pk
        have hmem : L[i].on = true → L[i].pk ∈ s.waits := fun e => by
          rw [hw]; exact List.mem_map.2 ⟨_, List.mem_filter.2 ⟨List.getElem_mem _, e⟩, rfl⟩
        generalize L[i] = x at hx0 hon hmem
        have hx := mid_at (f := g) hx0
        obtain ⟨q, off, vs, hDq, hmn, hqn, hmq, gm, gq, hRV⟩ := hRi.own hx
        rw [mid_len] at gm
        have hat5 := hRV.at hx
        have j1 : List.take 5 (List.drop (off + i * 5) vs) = rpE.enc x := hat5.1
        have j2 : off + i * 5 + 5 ≤ vs.length := hat5.2
        have hen : rpE.enc x = [.int .i64 x.num, .int .i64 x.size, .bool x.asks, .int .i64 x.at_, .bool x.on] := rfl
        rw [hen] at j1
        have nqm : (q = m) = False := eq_false (fun e => hmq e.symm)
        have nmq : (m = q) = False := eq_false hmq
        refine CodeH.seq' (CodeH.of_vc [] hm (okl hok) ?_)
        replace hok := okr hok
        simp (config := { dsimp := false, maxSteps := 10000000 }) (disch := omega) only [go_sem, reduceIte, Nat.reduceEqDiff, reduceCtorEq, Nat.reduceAdd, Nat.reduceMul, Int.reduceToNat, Int.reduceLE, Int.reduceLT, Int.reduceEq, Int.reduceNe, Nat.reduceLeDiff, Int.reducePow, Nat.reducePow, Nat.reduceLT, Nat.reduceSub, Nat.reduceMod, Nat.reduceDiv, slot_neg, slot_pos, T.ag_3, T.ag_4, T.ag_57, T.ag_78, T.eb_22, T.es_57, T.ez_22, T.fo_59_0, T.fo_59_1, T.fo_59_7, T.fo_59_8, T.fo_59_9, T.fo_78_0, T.fo_78_2, T.fo_78_3, T.fo_78_4, T.gf_43, T.ib_3, T.ii_22, T.ii_57, T.ip_3, T.s8_22, T.s8_57, T.sl_22, T.sl_57, T.st_22, T.st_57, T.un_22, T.un_57, T.zo_78, q0, q7, gm, refC, hlt]
        refine CodeH.seq' (CodeH.block ?_)
        have hokb := okb (okl hok)
        replace hok := okr hok
        refine CodeH.seq' (CodeH.of_vc [] hm (okl hokb) ?_)
        replace hokb := okr hokb
        simp (config := { dsimp := false, maxSteps := 10000000 }) (disch := omega) only [go_sem, reduceIte, Nat.reduceEqDiff, reduceCtorEq, Nat.reduceAdd, Nat.reduceMul, Int.reduceToNat, Int.reduceLE, Int.reduceLT, Int.reduceEq, Int.reduceNe, Nat.reduceLeDiff, Int.reducePow, Nat.reducePow, Nat.reduceLT, Nat.reduceSub, Nat.reduceMod, Nat.reduceDiv, slot_neg, slot_pos, T.ag_3, T.ag_4, T.ag_57, T.ag_78, T.eb_22, T.es_57, T.ez_22, T.fo_59_0, T.fo_59_1, T.fo_59_7, T.fo_59_8, T.fo_59_9, T.fo_78_0, T.fo_78_2, T.fo_78_3, T.fo_78_4, T.gf_43, T.ib_3, T.ii_22, T.ii_57, T.ip_3, T.s8_22, T.s8_57, T.sl_22, T.sl_57, T.st_22, T.st_57, T.un_22, T.un_57, T.zo_78, q0, q7, gm, refC, hlt, gq, j1]
        refine ⟨j2, ?_⟩
        obtain ⟨Hp, hHp⟩ : ∃ Hp, (H.alloc (.cells [.int .i64 0, .int .i64 0, .bool false, .int .i64 0, .bool false] .own)).put H.next (.live (.cells [.int .i64 x.num, .int .i64 x.size, .bool x.asks, .int .i64 x.at_, .bool x.on] .own)) = Hp := ⟨_, rfl⟩
        rw [hHp]
        have gpp : Hp.get H.next = .live (.cells [.int .i64 x.num, .int .i64 x.size, .bool x.asks, .int .i64 x.at_, .bool x.on] .own) := by rw [← hHp, get_put, if_pos rfl]
        have np : Hp.next = H.next + 1 := by rw [← hHp]; rfl
        have uP : Upd H Hp [] := by rw [← hHp]; exact (Upd.alloc _ _ _).put (.inr (Nat.le_refl _))
        have gmp := (uP.2 m hmn (by simp)).trans gm
        have gqp := (uP.2 q hqn (by simp)).trans gq
        clear hHp
        refine CodeH.seq (fun r' H' => Hp = H' ∧ r' 0 = .pointer (some ⟨m, 0, none⟩) ∧ r' 1 = .int .i64 at_ ∧ r' 5 = v5 ∧ r' 6 = .bool (hitB s ((waitsOf (L.take i)).filter g)) ∧ r' 7 = .int .i64 i ∧ r' 8 = .pointer (some ⟨H.next, 0, none⟩) ∧ r' 54 = .bool (x.on && g x.pk)) (CodeH.of_vc [] hm (okl hokb) ?_) ?_
        · cases ho : x.on with
          | false =>
            rw [ho] at gpp
            simp (config := { dsimp := false, maxSteps := 10000000 }) (disch := omega) only [go_sem, reduceIte, Nat.reduceEqDiff, reduceCtorEq, Nat.reduceAdd, Nat.reduceMul, Int.reduceToNat, Int.reduceLE, Int.reduceLT, Int.reduceEq, Int.reduceNe, Nat.reduceLeDiff, Int.reducePow, Nat.reducePow, Nat.reduceLT, Nat.reduceSub, Nat.reduceMod, Nat.reduceDiv, slot_neg, slot_pos, T.ag_3, T.ag_4, T.ag_57, T.ag_78, T.eb_22, T.es_57, T.ez_22, T.fo_59_0, T.fo_59_1, T.fo_59_7, T.fo_59_8, T.fo_59_9, T.fo_78_0, T.fo_78_2, T.fo_78_3, T.fo_78_4, T.gf_43, T.ib_3, T.ii_22, T.ii_57, T.ip_3, T.s8_22, T.s8_57, T.sl_22, T.sl_57, T.st_22, T.st_57, T.un_22, T.un_57, T.zo_78, q0, q1, q5, q6, q7, gmp, gpp, refC]
            all_goals simp [ho]
          | true =>
            rw [ho] at gpp
            by_cases c1 : x.num ≤ s.best - 3
            · have c1' : (x.num ≤ s.best - 3) = True := eq_true c1
              have hgv : g x.pk = true := by rw [hgx]; exact decide_eq_true (Or.inl c1)
              simp (config := { dsimp := false, maxSteps := 10000000 }) (disch := omega) only [go_sem, reduceIte, Nat.reduceEqDiff, reduceCtorEq, Nat.reduceAdd, Nat.reduceMul, Int.reduceToNat, Int.reduceLE, Int.reduceLT, Int.reduceEq, Int.reduceNe, Nat.reduceLeDiff, Int.reducePow, Nat.reducePow, Nat.reduceLT, Nat.reduceSub, Nat.reduceMod, Nat.reduceDiv, slot_neg, slot_pos, T.ag_3, T.ag_4, T.ag_57, T.ag_78, T.eb_22, T.es_57, T.ez_22, T.fo_59_0, T.fo_59_1, T.fo_59_7, T.fo_59_8, T.fo_59_9, T.fo_78_0, T.fo_78_2, T.fo_78_3, T.fo_78_4, T.gf_43, T.ib_3, T.ii_22, T.ii_57, T.ip_3, T.s8_22, T.s8_57, T.sl_22, T.sl_57, T.st_22, T.st_57, T.un_22, T.un_57, T.zo_78, q0, q1, q5, q6, q7, gmp, gpp, refC, w2, c1']
              all_goals simp [ho, hgv]
            · have c1' : (x.num ≤ s.best - 3) = False := eq_false c1
              by_cases c2 : x.num < s.best
              · have c2' : (x.num < s.best) = True := eq_true c2
                simp (config := { dsimp := false, maxSteps := 10000000 }) (disch := omega) only [go_sem, reduceIte, Nat.reduceEqDiff, reduceCtorEq, Nat.reduceAdd, Nat.reduceMul, Int.reduceToNat, Int.reduceLE, Int.reduceLT, Int.reduceEq, Int.reduceNe, Nat.reduceLeDiff, Int.reducePow, Nat.reducePow, Nat.reduceLT, Nat.reduceSub, Nat.reduceMod, Nat.reduceDiv, slot_neg, slot_pos, T.ag_3, T.ag_4, T.ag_57, T.ag_78, T.eb_22, T.es_57, T.ez_22, T.fo_59_0, T.fo_59_1, T.fo_59_7, T.fo_59_8, T.fo_59_9, T.fo_78_0, T.fo_78_2, T.fo_78_3, T.fo_78_4, T.gf_43, T.ib_3, T.ii_22, T.ii_57, T.ip_3, T.s8_22, T.s8_57, T.sl_22, T.sl_57, T.st_22, T.st_57, T.un_22, T.un_57, T.zo_78, q0, q1, q5, q6, q7, gmp, gpp, refC, w2, c1', c2']
                refine ⟨.int .i64 (waitT s), rfl, rwait_ph _ m _ _ s (by rw [get_ro, gmp, lock_live', lock_cells]) hs, ?_⟩
                by_cases c3 : x.at_ ≤ at_ - waitT s
                · have c3' : (x.at_ ≤ at_ - waitT s) = True := eq_true c3
                  have hgv : g x.pk = true := by rw [hgx]; exact decide_eq_true (Or.inr ⟨c2, c3⟩)
                  simp (config := { dsimp := false, maxSteps := 10000000 }) (disch := omega) only [go_sem, reduceIte, Nat.reduceEqDiff, reduceCtorEq, Nat.reduceAdd, Nat.reduceMul, Int.reduceToNat, Int.reduceLE, Int.reduceLT, Int.reduceEq, Int.reduceNe, Nat.reduceLeDiff, Int.reducePow, Nat.reducePow, Nat.reduceLT, Nat.reduceSub, Nat.reduceMod, Nat.reduceDiv, slot_neg, slot_pos, T.ag_3, T.ag_4, T.ag_57, T.ag_78, T.eb_22, T.es_57, T.ez_22, T.fo_59_0, T.fo_59_1, T.fo_59_7, T.fo_59_8, T.fo_59_9, T.fo_78_0, T.fo_78_2, T.fo_78_3, T.fo_78_4, T.gf_43, T.ib_3, T.ii_22, T.ii_57, T.ip_3, T.s8_22, T.s8_57, T.sl_22, T.sl_57, T.st_22, T.st_57, T.un_22, T.un_57, T.zo_78, q0, q1, q5, q6, q7, gmp, gpp, refC, w1, w2, c1', c2', c3']
                  all_goals simp [ho, hgv]
                · have c3' : (x.at_ ≤ at_ - waitT s) = False := eq_false c3
                  have hgv : g x.pk = false := by rw [hgx]; exact decide_eq_false (by simp only [RP.pk]; omega)
                  simp (config := { dsimp := false, maxSteps := 10000000 }) (disch := omega) only [go_sem, reduceIte, Nat.reduceEqDiff, reduceCtorEq, Nat.reduceAdd, Nat.reduceMul, Int.reduceToNat, Int.reduceLE, Int.reduceLT, Int.reduceEq, Int.reduceNe, Nat.reduceLeDiff, Int.reducePow, Nat.reducePow, Nat.reduceLT, Nat.reduceSub, Nat.reduceMod, Nat.reduceDiv, slot_neg, slot_pos, T.ag_3, T.ag_4, T.ag_57, T.ag_78, T.eb_22, T.es_57, T.ez_22, T.fo_59_0, T.fo_59_1, T.fo_59_7, T.fo_59_8, T.fo_59_9, T.fo_78_0, T.fo_78_2, T.fo_78_3, T.fo_78_4, T.gf_43, T.ib_3, T.ii_22, T.ii_57, T.ip_3, T.s8_22, T.s8_57, T.sl_22, T.sl_57, T.st_22, T.st_57, T.un_22, T.un_57, T.zo_78, q0, q1, q5, q6, q7, gmp, gpp, refC, w1, w2, c1', c2', c3']
                  all_goals simp [ho, hgv]
              · have c2' : (x.num < s.best) = False := eq_false c2
                have hgv : g x.pk = false := by rw [hgx]; exact decide_eq_false (by simp only [RP.pk]; omega)
                simp (config := { dsimp := false, maxSteps := 10000000 }) (disch := omega) only [go_sem, reduceIte, Nat.reduceEqDiff, reduceCtorEq, Nat.reduceAdd, Nat.reduceMul, Int.reduceToNat, Int.reduceLE, Int.reduceLT, Int.reduceEq, Int.reduceNe, Nat.reduceLeDiff, Int.reducePow, Nat.reducePow, Nat.reduceLT, Nat.reduceSub, Nat.reduceMod, Nat.reduceDiv, slot_neg, slot_pos, T.ag_3, T.ag_4, T.ag_57, T.ag_78, T.eb_22, T.es_57, T.ez_22, T.fo_59_0, T.fo_59_1, T.fo_59_7, T.fo_59_8, T.fo_59_9, T.fo_78_0, T.fo_78_2, T.fo_78_3, T.fo_78_4, T.gf_43, T.ib_3, T.ii_22, T.ii_57, T.ip_3, T.s8_22, T.s8_57, T.sl_22, T.sl_57, T.st_22, T.st_57, T.un_22, T.un_57, T.zo_78, q0, q1, q5, q6, q7, gmp, gpp, refC, w2, c1', c2']
                all_goals simp [ho, hgv]
        · rintro r' H' ⟨hH, z0, z1, z5, z6, z7, z8, z54⟩
          subst hH
          have hokc := okr hokb
          have w3 : IntKind.i64.wrap ((i : Int) + 1) = ((i + 1 : Nat) : Int) := by rw [i64wrap] <;> omega
          have hta := waits_take hx0
          cases hsel : x.on && g x.pk with
          | false =>
            rw [hsel] at z54
            refine CodeH.condF (okc hokc).1 z54 ?_
            refine CodeH.of_vc [] hm (okc hokc).2.2 ?_
            simp (config := { dsimp := false, maxSteps := 10000000 }) (disch := omega) only [go_sem, reduceIte, Nat.reduceEqDiff, reduceCtorEq, Nat.reduceAdd, Nat.reduceMul, Int.reduceToNat, Int.reduceLE, Int.reduceLT, Int.reduceEq, Int.reduceNe, Nat.reduceLeDiff, Int.reducePow, Nat.reducePow, Nat.reduceLT, Nat.reduceSub, Nat.reduceMod, Nat.reduceDiv, slot_neg, slot_pos, T.ag_3, T.ag_4, T.ag_57, T.ag_78, T.eb_22, T.es_57, T.ez_22, T.fo_59_0, T.fo_59_1, T.fo_59_7, T.fo_59_8, T.fo_59_9, T.fo_78_0, T.fo_78_2, T.fo_78_3, T.fo_78_4, T.gf_43, T.ib_3, T.ii_22, T.ii_57, T.ip_3, T.s8_22, T.s8_57, T.sl_22, T.sl_57, T.st_22, T.st_57, T.un_22, T.un_57, T.zo_78]
            refine CodeH.of_vc [] hm hok ?_
            simp (config := { dsimp := false, maxSteps := 10000000 }) (disch := omega) only [go_sem, reduceIte, Nat.reduceEqDiff, reduceCtorEq, Nat.reduceAdd, Nat.reduceMul, Int.reduceToNat, Int.reduceLE, Int.reduceLT, Int.reduceEq, Int.reduceNe, Nat.reduceLeDiff, Int.reducePow, Nat.reducePow, Nat.reduceLT, Nat.reduceSub, Nat.reduceMod, Nat.reduceDiv, slot_neg, slot_pos, T.ag_3, T.ag_4, T.ag_57, T.ag_78, T.eb_22, T.es_57, T.ez_22, T.fo_59_0, T.fo_59_1, T.fo_59_7, T.fo_59_8, T.fo_59_9, T.fo_78_0, T.fo_78_2, T.fo_78_3, T.fo_78_4, T.gf_43, T.ib_3, T.ii_22, T.ii_57, T.ip_3, T.s8_22, T.s8_57, T.sl_22, T.sl_57, T.st_22, T.st_57, T.un_22, T.un_57, T.zo_78, z0, z1, z5, z6, z7, w3, q7]
            have e1 : offX g x = x := by unfold offX; rw [hsel]; rfl
            have e2 : mid g L (i + 1) = mid g L i := by
              rw [mid_next hx0, e1]
              obtain ⟨hi2, e⟩ := List.getElem?_eq_some_iff.1 hx
              conv => lhs; rw [← e]
              exact List.set_getElem_self hi2
            have e3 : (waitsOf (L.take (i + 1))).filter g = (waitsOf (L.take i)).filter g := by
              rw [hta, List.filter_append]
              cases ho : x.on with
              | false => simp
              | true =>
                rw [ho, Bool.true_and] at hsel
                simp [hsel]
            exact ⟨⟨i + 1, Do, hil, hU.trans uP (by simp), by rw [e2]; exact hRi.upd uP (by simp) (by simp), by rw [e3]; exact hO.upd uP (by simp), hDo, by rw [e3], rfl⟩, by omega⟩
          | true =>
            rw [hsel] at z54
            have e1 : offX g x = { x with on := false } := by unfold offX; rw [hsel]; rfl
            have e3 : (waitsOf (L.take (i + 1))).filter g = (waitsOf (L.take i)).filter g ++ [x.pk] := by
              rw [Bool.and_eq_true] at hsel
              rw [hta, List.filter_append, hsel.1]; simp [hsel.2]
            refine CodeH.condT (okc hokc).1 z54 ?_
            have hokd := (okc hokc).2.1
            refine CodeH.seq' (CodeH.of_vc [] hm (okl hokd) ?_)
            replace hokd := okr hokd
            have hq4 : off + i * 5 + 4 < vs.length := by omega
            simp (config := { dsimp := false, maxSteps := 10000000 }) (disch := omega) only [go_sem, reduceIte, Nat.reduceEqDiff, reduceCtorEq, Nat.reduceAdd, Nat.reduceMul, Int.reduceToNat, Int.reduceLE, Int.reduceLT, Int.reduceEq, Int.reduceNe, Nat.reduceLeDiff, Int.reducePow, Nat.reducePow, Nat.reduceLT, Nat.reduceSub, Nat.reduceMod, Nat.reduceDiv, slot_neg, slot_pos, T.ag_3, T.ag_4, T.ag_57, T.ag_78, T.eb_22, T.es_57, T.ez_22, T.fo_59_0, T.fo_59_1, T.fo_59_7, T.fo_59_8, T.fo_59_9, T.fo_78_0, T.fo_78_2, T.fo_78_3, T.fo_78_4, T.gf_43, T.ib_3, T.ii_22, T.ii_57, T.ip_3, T.s8_22, T.s8_57, T.sl_22, T.sl_57, T.st_22, T.st_57, T.un_22, T.un_57, T.zo_78, z0, z7, gmp, refC, gqp, hlt]
            refine ⟨hq4, ?_⟩
            obtain ⟨Hs, hHs⟩ : ∃ Hs, Hp.put q (.live (.cells (vs.set (off + i * 5 + 4) (.bool false)) .own)) = Hs := ⟨_, rfl⟩
            rw [hHs]
            have nqH : (H.next = q) = False := eq_false (by omega)
            have gps : Hs.get H.next = .live (.cells [.int .i64 x.num, .int .i64 x.size, .bool x.asks, .int .i64 x.at_, .bool x.on] .own) := by rw [← hHs, get_put, if_neg (by omega)]; exact gpp
            have gqs : Hs.get q = .live (.cells (vs.set (off + i * 5 + 4) (.bool false)) .own) := by rw [← hHs, get_put, if_pos rfl]
            have gms : Hs.get m = .live (.cells (refC (.slice (some ⟨q, off, none⟩) L.length 5) s) .own) := by rw [← hHs, get_put, if_neg hmq]; exact gmp
            have ns : Hs.next = H.next + 1 := by rw [← hHs, next_put]; exact np
            have uS : Upd H Hs [q] := by rw [← hHs]; exact (uP.mono (by simp)).put (.inl (by simp))
            clear hHs
            have hlD := hR.lt
            have hql : q < h.next := hlD q (by rw [hDq]; simp)
            have hDoq : ∀ d ∈ Do, d ∉ [q] := fun d hd => by have := hDo d hd; simp; omega
            have hOs := hO.upd uS hDoq
            have hlO := hO.lt
            refine CodeH.seq' (CodeH.of_vc [] hm (okl hokd) ?_)
            replace hokd := okr hokd
            simp (config := { dsimp := false, maxSteps := 10000000 }) (disch := omega) only [go_sem, reduceIte, Nat.reduceEqDiff, reduceCtorEq, Nat.reduceAdd, Nat.reduceMul, Int.reduceToNat, Int.reduceLE, Int.reduceLT, Int.reduceEq, Int.reduceNe, Nat.reduceLeDiff, Int.reducePow, Nat.reducePow, Nat.reduceLT, Nat.reduceSub, Nat.reduceMod, Nat.reduceDiv, slot_neg, slot_pos, T.ag_3, T.ag_4, T.ag_57, T.ag_78, T.eb_22, T.es_57, T.ez_22, T.fo_59_0, T.fo_59_1, T.fo_59_7, T.fo_59_8, T.fo_59_9, T.fo_78_0, T.fo_78_2, T.fo_78_3, T.fo_78_4, T.gf_43, T.ib_3, T.ii_22, T.ii_57, T.ip_3, T.s8_22, T.s8_57, T.sl_22, T.sl_57, T.st_22, T.st_57, T.un_22, T.un_57, T.zo_78, z5, z8, gps]
            have hg3 : ∀ (b : Blk) d, d < Hs.next → (Hs.alloc b).get d = Hs.get d := fun b d hd => by rw [get_alloc, if_neg (by omega)]
            have hfl : (List.map (fun x : Pk => x.num) ((waitsOf (L.take i)).filter g)).length ≤ 100000 := by
              rw [List.length_map]
              have h1 := List.length_filter_le g (waitsOf (L.take i))
              have h2 : (waitsOf (L.take i)).length ≤ (L.take i).length := by unfold waitsOf; rw [List.length_map]; exact List.length_filter_le _ _
              have h3 : (L.take i).length ≤ L.length := by rw [List.length_take]; omega
              omega
            refine app_own (E := intE) (ns := [x.num]) (hOs.keep (Nat.le_succ _) fun d hd => hg3 _ d (hOs.lt d hd)) rfl rfl rfl (by rw [show ([x.num] : List Int).length = 1 from rfl]; omega) fun u H2 D2 hO2 hU2 hD2 => ?_
            have n2 : Hs.next + 1 ≤ H2.next := hU2.1
            have gm2 : H2.get m = .live (.cells (refC (.slice (some ⟨q, off, none⟩) L.length 5) s) .own) := by
              rw [hU2.2 m (by rw [next_alloc]; omega) (fun hd => by have := hDo m hd; have := hR.1; omega), hg3 _ m (by omega)]; exact gms
            have gp2 : H2.get H.next = .live (.cells [.int .i64 x.num, .int .i64 x.size, .bool x.asks, .int .i64 x.at_, .bool x.on] .own) := by
              rw [hU2.2 H.next (by rw [next_alloc]; omega) (fun hd => by have := hlO _ hd; omega), hg3 _ H.next (by omega)]; exact gps
            have gq2 : H2.get q = .live (.cells (vs.set (off + i * 5 + 4) (.bool false)) .own) := by
              rw [hU2.2 q (by rw [next_alloc]; omega) (fun hd => hDoq q hd (by simp)), hg3 _ q (by omega)]; exact gqs
            have hR2 : RefR H2 m D (mid g L (i + 1)) s := by
              refine ⟨by omega, hR.2.1, _, gm2, .inr ⟨q, off, _, hDq, by omega, by rw [mid_len]; rfl, gq2, ?_⟩⟩
              rw [mid_next hx0]
              exact hRV.setj (j := 4) hx (by decide) (by rw [e1]; rfl)
            have hU3 : Upd h H2 (m :: D) := (hU.trans uS fun d hd => .inl (by simp at hd; rw [hd, hDq]; simp)).trans ((Upd.alloc Hs (.cells [.int .i64 x.num] .own) Do).trans hU2 fun d hd => .inl hd) fun d hd => .inr (hDo d hd)
            have hD3 : ∀ d ∈ D2, h.next ≤ d := fun d hd => by
              rcases hD2 d hd with h1 | h1
              · exact hDo d h1
              · have h2 : Hs.next + 1 ≤ d := h1
                have := hU.1; omega
            have hO3 : OwnRow intE H2 u D2 (((waitsOf (L.take (i + 1))).filter g).map (·.num)) := by rw [e3, List.map_append]; exact hO2
            have hhit : hitB s ((waitsOf (L.take (i + 1))).filter g) = if x.asks then decide (s.since < x.at_) else hitB s ((waitsOf (L.take i)).filter g) := by rw [e3, hit_snoc]; rfl
            refine CodeH.seq' (CodeH.of_vc [] hm (okl hokd) ?_)
            replace hokd := okr hokd
            simp (config := { dsimp := false, maxSteps := 10000000 }) (disch := omega) only [go_sem, reduceIte, Nat.reduceEqDiff, reduceCtorEq, Nat.reduceAdd, Nat.reduceMul, Int.reduceToNat, Int.reduceLE, Int.reduceLT, Int.reduceEq, Int.reduceNe, Nat.reduceLeDiff, Int.reducePow, Nat.reducePow, Nat.reduceLT, Nat.reduceSub, Nat.reduceMod, Nat.reduceDiv, slot_neg, slot_pos, T.ag_3, T.ag_4, T.ag_57, T.ag_78, T.eb_22, T.es_57, T.ez_22, T.fo_59_0, T.fo_59_1, T.fo_59_7, T.fo_59_8, T.fo_59_9, T.fo_78_0, T.fo_78_2, T.fo_78_3, T.fo_78_4, T.gf_43, T.ib_3, T.ii_22, T.ii_57, T.ip_3, T.s8_22, T.s8_57, T.sl_22, T.sl_57, T.st_22, T.st_57, T.un_22, T.un_57, T.zo_78, z8, gp2]
            cases hk : x.asks with
            | false =>
              rw [hk] at hhit
              refine CodeH.condF (okc hokd).1 rfl ?_
              refine CodeH.of_vc [] hm (okc hokd).2.2 ?_
              simp (config := { dsimp := false, maxSteps := 10000000 }) (disch := omega) only [go_sem, reduceIte, Nat.reduceEqDiff, reduceCtorEq, Nat.reduceAdd, Nat.reduceMul, Int.reduceToNat, Int.reduceLE, Int.reduceLT, Int.reduceEq, Int.reduceNe, Nat.reduceLeDiff, Int.reducePow, Nat.reducePow, Nat.reduceLT, Nat.reduceSub, Nat.reduceMod, Nat.reduceDiv, slot_neg, slot_pos, T.ag_3, T.ag_4, T.ag_57, T.ag_78, T.eb_22, T.es_57, T.ez_22, T.fo_59_0, T.fo_59_1, T.fo_59_7, T.fo_59_8, T.fo_59_9, T.fo_78_0, T.fo_78_2, T.fo_78_3, T.fo_78_4, T.gf_43, T.ib_3, T.ii_22, T.ii_57, T.ip_3, T.s8_22, T.s8_57, T.sl_22, T.sl_57, T.st_22, T.st_57, T.un_22, T.un_57, T.zo_78]
              refine CodeH.of_vc [] hm hok ?_
              simp (config := { dsimp := false, maxSteps := 10000000 }) (disch := omega) only [go_sem, reduceIte, Nat.reduceEqDiff, reduceCtorEq, Nat.reduceAdd, Nat.reduceMul, Int.reduceToNat, Int.reduceLE, Int.reduceLT, Int.reduceEq, Int.reduceNe, Nat.reduceLeDiff, Int.reducePow, Nat.reducePow, Nat.reduceLT, Nat.reduceSub, Nat.reduceMod, Nat.reduceDiv, slot_neg, slot_pos, T.ag_3, T.ag_4, T.ag_57, T.ag_78, T.eb_22, T.es_57, T.ez_22, T.fo_59_0, T.fo_59_1, T.fo_59_7, T.fo_59_8, T.fo_59_9, T.fo_78_0, T.fo_78_2, T.fo_78_3, T.fo_78_4, T.gf_43, T.ib_3, T.ii_22, T.ii_57, T.ip_3, T.s8_22, T.s8_57, T.sl_22, T.sl_57, T.st_22, T.st_57, T.un_22, T.un_57, T.zo_78, z0, z1, z6, z7, w3, q7]
              exact ⟨⟨i + 1, D2, hil, hU3, hR2, hO3, hD3, by rw [hhit]; rfl, rfl⟩, by omega⟩
            | true =>
              rw [hk] at hhit
              refine CodeH.condT (okc hokd).1 rfl ?_
              refine CodeH.of_vc [] hm (okc hokd).2.1 ?_
              simp (config := { dsimp := false, maxSteps := 10000000 }) (disch := omega) only [go_sem, reduceIte, Nat.reduceEqDiff, reduceCtorEq, Nat.reduceAdd, Nat.reduceMul, Int.reduceToNat, Int.reduceLE, Int.reduceLT, Int.reduceEq, Int.reduceNe, Nat.reduceLeDiff, Int.reducePow, Nat.reducePow, Nat.reduceLT, Nat.reduceSub, Nat.reduceMod, Nat.reduceDiv, slot_neg, slot_pos, T.ag_3, T.ag_4, T.ag_57, T.ag_78, T.eb_22, T.es_57, T.ez_22, T.fo_59_0, T.fo_59_1, T.fo_59_7, T.fo_59_8, T.fo_59_9, T.fo_78_0, T.fo_78_2, T.fo_78_3, T.fo_78_4, T.gf_43, T.ib_3, T.ii_22, T.ii_57, T.ip_3, T.s8_22, T.s8_57, T.sl_22, T.sl_57, T.st_22, T.st_57, T.un_22, T.un_57, T.zo_78, z0, z8, gp2, gm2, refC]
              refine CodeH.of_vc [] hm hok ?_
              simp (config := { dsimp := false, maxSteps := 10000000 }) (disch := omega) only [go_sem, reduceIte, Nat.reduceEqDiff, reduceCtorEq, Nat.reduceAdd, Nat.reduceMul, Int.reduceToNat, Int.reduceLE, Int.reduceLT, Int.reduceEq, Int.reduceNe, Nat.reduceLeDiff, Int.reducePow, Nat.reducePow, Nat.reduceLT, Nat.reduceSub, Nat.reduceMod, Nat.reduceDiv, slot_neg, slot_pos, T.ag_3, T.ag_4, T.ag_57, T.ag_78, T.eb_22, T.es_57, T.ez_22, T.fo_59_0, T.fo_59_1, T.fo_59_7, T.fo_59_8, T.fo_59_9, T.fo_78_0, T.fo_78_2, T.fo_78_3, T.fo_78_4, T.gf_43, T.ib_3, T.ii_22, T.ii_57, T.ip_3, T.s8_22, T.s8_57, T.sl_22, T.sl_57, T.st_22, T.st_57, T.un_22, T.un_57, T.zo_78, z0, z1, z6, z7, w3, q7]
              exact ⟨⟨i + 1, D2, hil, hU3, hR2, hO3, hD3, by rw [hhit]; rfl, rfl⟩, by omega⟩
      · have hlt : ((i : Int) < (L.length : Int)) = False := eq_false (by omega)
        obtain rfl : i = L.length := by omega
        obtain ⟨A, st, o, h1, gm⟩ := hRi.view.form
        rw [mid_len] at gm
        rw [List.take_length, ← hgl] at hO q6
        refine CodeH.seq' (CodeH.of_vc [] hm (okl hok) ?_)
        replace hok := okr hok
        simp (config := { dsimp := false, maxSteps := 10000000 }) (disch := omega) only [go_sem, reduceIte, Nat.reduceEqDiff, reduceCtorEq, Nat.reduceAdd, Nat.reduceMul, Int.reduceToNat, Int.reduceLE, Int.reduceLT, Int.reduceEq, Int.reduceNe, Nat.reduceLeDiff, Int.reducePow, Nat.reducePow, Nat.reduceLT, Nat.reduceSub, Nat.reduceMod, Nat.reduceDiv, slot_neg, slot_pos, T.ag_3, T.ag_4, T.ag_57, T.ag_78, T.eb_22, T.es_57, T.ez_22, T.fo_59_0, T.fo_59_1, T.fo_59_7, T.fo_59_8, T.fo_59_9, T.fo_78_0, T.fo_78_2, T.fo_78_3, T.fo_78_4, T.gf_43, T.ib_3, T.ii_22, T.ii_57, T.ip_3, T.s8_22, T.s8_57, T.sl_22, T.sl_57, T.st_22, T.st_57, T.un_22, T.un_57, T.zo_78, q0, q7, gm, refC, hlt, q1, q5, q6]
        exact ⟨Do, hU, hRi, hO, hDo⟩
  · rintro r H ⟨Do, hU, hRi, hO, hDo, q0, q1, q6⟩
    generalize q5 : r 5 = v5 at *
    rw [mid_all] at hRi
    obtain ⟨hm2, _, w, gm, hO1⟩ := id hRi
    have hDm : ∀ d ∈ Do, d ≠ m := fun d hd e => by have := hDo d hd; have := hR.1; omega
    have bw := hs.window
    have hgs := giveS_hit s at_
    cases hh : hitB s (giveL s at_) with
    | false =>
      rw [hh] at q6 hgs
      (refine CodeH.seq' (CodeH.of_vc [] hm (by kernel_rfl) ?_); simp (config := { dsimp := false, maxSteps := 10000000 }) (disch := omega) only [go_sem, reduceIte, Nat.reduceEqDiff, reduceCtorEq, Nat.reduceAdd, Nat.reduceMul, Int.reduceToNat, Int.reduceLE, Int.reduceLT, Int.reduceEq, Int.reduceNe, Nat.reduceLeDiff, Int.reducePow, Nat.reducePow, Nat.reduceLT, Nat.reduceSub, Nat.reduceMod, Nat.reduceDiv, slot_neg, slot_pos, T.ag_3, T.ag_4, T.ag_57, T.ag_78, T.eb_22, T.es_57, T.ez_22, T.fo_59_0, T.fo_59_1, T.fo_59_7, T.fo_59_8, T.fo_59_9, T.fo_78_0, T.fo_78_2, T.fo_78_3, T.fo_78_4, T.gf_43, T.ib_3, T.ii_22, T.ii_57, T.ip_3, T.s8_22, T.s8_57, T.sl_22, T.sl_57, T.st_22, T.st_57, T.un_22, T.un_57, T.zo_78, init_a, q6])
      (refine CodeH.of_vc [] hm (by kernel_rfl) ?_; simp (config := { dsimp := false, maxSteps := 10000000 }) (disch := omega) only [go_sem, reduceIte, Nat.reduceEqDiff, reduceCtorEq, Nat.reduceAdd, Nat.reduceMul, Int.reduceToNat, Int.reduceLE, Int.reduceLT, Int.reduceEq, Int.reduceNe, Nat.reduceLeDiff, Int.reducePow, Nat.reducePow, Nat.reduceLT, Nat.reduceSub, Nat.reduceMod, Nat.reduceDiv, slot_neg, slot_pos, T.ag_3, T.ag_4, T.ag_57, T.ag_78, T.eb_22, T.es_57, T.ez_22, T.fo_59_0, T.fo_59_1, T.fo_59_7, T.fo_59_8, T.fo_59_9, T.fo_78_0, T.fo_78_2, T.fo_78_3, T.fo_78_4, T.gf_43, T.ib_3, T.ii_22, T.ii_57, T.ip_3, T.s8_22, T.s8_57, T.sl_22, T.sl_57, T.st_22, T.st_57, T.un_22, T.un_57, T.zo_78, init_a, q5])
      rw [hgs]
      exact ⟨Do, hO, hDo, hRi, hU⟩
    | true =>
      rw [hh] at q6 hgs
      have w3 : IntKind.i64.wrap (s.window.tdiv 2) = s.window / 2 := by rw [tdiv_pos (by omega), i64wrap] <;> omega
      (refine CodeH.seq' (CodeH.of_vc [] hm (by kernel_rfl) ?_); simp (config := { dsimp := false, maxSteps := 10000000 }) (disch := omega) only [go_sem, reduceIte, Nat.reduceEqDiff, reduceCtorEq, Nat.reduceAdd, Nat.reduceMul, Int.reduceToNat, Int.reduceLE, Int.reduceLT, Int.reduceEq, Int.reduceNe, Nat.reduceLeDiff, Int.reducePow, Nat.reducePow, Nat.reduceLT, Nat.reduceSub, Nat.reduceMod, Nat.reduceDiv, slot_neg, slot_pos, T.ag_3, T.ag_4, T.ag_57, T.ag_78, T.eb_22, T.es_57, T.ez_22, T.fo_59_0, T.fo_59_1, T.fo_59_7, T.fo_59_8, T.fo_59_9, T.fo_78_0, T.fo_78_2, T.fo_78_3, T.fo_78_4, T.gf_43, T.ib_3, T.ii_22, T.ii_57, T.ip_3, T.s8_22, T.s8_57, T.sl_22, T.sl_57, T.st_22, T.st_57, T.un_22, T.un_57, T.zo_78, init_a, q6, q0, q1, gm, refC, w3, maxl])
      (refine CodeH.of_vc [] hm (by kernel_rfl) ?_; simp (config := { dsimp := false, maxSteps := 10000000 }) (disch := omega) only [go_sem, reduceIte, Nat.reduceEqDiff, reduceCtorEq, Nat.reduceAdd, Nat.reduceMul, Int.reduceToNat, Int.reduceLE, Int.reduceLT, Int.reduceEq, Int.reduceNe, Nat.reduceLeDiff, Int.reducePow, Nat.reducePow, Nat.reduceLT, Nat.reduceSub, Nat.reduceMod, Nat.reduceDiv, slot_neg, slot_pos, T.ag_3, T.ag_4, T.ag_57, T.ag_78, T.eb_22, T.es_57, T.ez_22, T.fo_59_0, T.fo_59_1, T.fo_59_7, T.fo_59_8, T.fo_59_9, T.fo_78_0, T.fo_78_2, T.fo_78_3, T.fo_78_4, T.gf_43, T.ib_3, T.ii_22, T.ii_57, T.ip_3, T.s8_22, T.s8_57, T.sl_22, T.sl_57, T.st_22, T.st_57, T.un_22, T.un_57, T.zo_78, init_a, q5])
      rw [hgs]
      exact ⟨Do, hO.keep (by rw [next_put]; exact Nat.le_refl _) (fun d hd => by rw [get_put, if_neg (hDm d hd)]), hDo, RefR.put (s' := hitS (restS s at_) at_) hm2 hR.2.1 hO1, hU.put (.inl (by simp))⟩
end Ph
