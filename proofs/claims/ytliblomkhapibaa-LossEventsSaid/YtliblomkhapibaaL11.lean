import Derived.Test.YtliblomkhapibaaL10
set_option maxRecDepth 100000
set_option maxHeartbeats 1000000
set_option linter.unusedSimpArgs false
set_option linter.unusedVariables false
namespace Ph
open Go Go.Proofs
attribute [local irreducible] Value.cells
attribute [local go_sem ↓] y_move y_assign y_pick y_nil y_bin y_un y_fa y_field y_ext y_ia y_ix y_slice y_build y_mf y_load y_len y_min y_max y_conv y_bs y_mk y_alloc y_box y_store y_clear y_app y_callf y_callt s_move s_assign s_pick s_nil s_bin s_un s_fa s_field s_ext s_ia s_ix s_slice s_conv s_build s_bs s_mf s_alloc s_box s_load s_store s_len s_clear s_min s_max s_app s_call q_call q_move q_assign q_pick q_nil q_bin q_un q_fa q_field q_ext q_ia q_ix q_slice q_conv q_build q_mf q_load q_len q_min q_max l_nil l_move l_assign l_pick l_nilc l_bin l_un l_fa l_field l_ext l_ia l_ix l_slice l_conv l_build l_mf l_load l_len l_min l_max l_call put_eq putN_eq o_nil o_plain o_gate v_nil v_plain v_gate vc_skip vc_region vc_seq vc_cond vc_block vc_loop vc_rf vc_exit vc_ret blk_normal blk_ret blk_exit on_normal on_ret on_exit vc_drawn draw_q s_mk l_bs l_mk l_alloc l_box l_store l_app l_clear pl_done pl_takeS pl_take pl_alt pl_stop one_plain one_gate
attribute [local go_sem] clear_nil clear_sl onAgg_a onTuple_t onFn_f onFn_y onFunc_f c_int c_nil c_sl c_str sl_sl sl_nil sl_str ix_str ix_agg n_nil n_sl n_str app_eq k_nil k_sl len_sl len_str upd_some upd_none ev_tmp ev_const ev_func rd_some gdst_eq otmp_t otmp_c get_put get_alloc next_put next_alloc get_app next_app init_a resV1 resV2 onPtr_ptr onBool_b onInt_i onSlice_s onSome_s onCells_c lett_eq gate_tt gate_tf gate_ff gate_ft gate_dt gate_df also_eq bin un minmax io_none io_some bo_none bo_some partOf List.getElem?_cons_zero List.getElem?_cons_succ List.getElem?_toArray Option.map_some Option.map_none Option.bind_some ne_eq not_true_eq_false not_false_eq_true false_implies true_implies and_true true_and and_self Bool.false_eq_true Nat.zero_add Nat.add_zero List.size_toArray List.length_cons List.length_nil List.map_toArray List.map_cons List.map_nil Array.getD_eq_getD_getElem? Option.getD_some Bool.not_true Bool.not_false Bool.not_eq_true Option.isNone_some Option.isNone_none List.append_toArray List.append_nil List.nil_append List.cons_append decide_true decide_false in_nil in_cons Bool.and_false Bool.and_true Bool.or_false Bool.true_or Bool.false_or get_mask next_mask get_unmask next_unmask ac_move ac_assign ac_pick ac_nil ac_bin ac_un ac_fa ac_field ac_ext ac_ia ac_ix ac_slice ac_build ac_mf ac_call ac_load ac_conv accP_p accS_s accS_n accS_i accS_t fixed_ro fixed_lock fixed_own get_ro next_ro lock_live' lock_cells List.mem_cons List.not_mem_nil or_false false_or or_true true_or and_false false_and IntKind.bits Int.natCast_zero Int.natCast_one size_str data_str list_str mk_str ext_str app_str bytes_str w_byte w_byteu Int.toNat_natCast Int.toNat_zero Int.toNat_one Nat.sub_zero ge_iff_le gt_iff_lt Nat.le_refl Int.le_refl List.drop_zero Int.ofNat_eq_natCast Int.natCast_nonneg Int.sub_zero oc_int oc_bool oc_str oc_ptr oc_sl oc_map oc_func List.set_cons_zero List.set_cons_succ Nat.mul_one List.all_cons List.all_nil Bool.and_self res_nil res_tmp res_cell tup_one tup_two tup_nil fill_nil repl_zero cells_agg List.append_eq List.toList_toArray Nat.zero_mul Nat.one_mul repl_one repl_two onSome_build fill_cons onSome_lit splice_eq cells_int cells_bool cells_str cells_ptr cells_sl cells_map cells_func loadK_n loadK_s load_k storeK_n storeK_s store_k all_arr List.take_zero List.take_succ_cons List.drop_succ_cons List.take_nil List.drop_nil lk_own lk_ro lk_lock lk_lk fixed_lk gate_nt gate_nf gate3_b gate3_u undef Bool.true_and Bool.false_and nx_l nx_r nx_lt put_put resV0
def ptoT (s : St) : Int := (s.smooth + max (4 * s.vary) 1 + 25) * 2 ^ s.tries.toNat
def timerS (s : St) : Int × Bool × Bool :=
  match s.waits with
  | [] => (0, false, false)
  | x :: _ => if x.num < s.best then (x.at_ + waitT s, true, true) else match lastAsk s.waits with
    | some y => (y.at_ + ptoT s, true, false)
    | none => (0, false, false)
def tup3 (t : Int × Bool × Bool) : Value := .tuple #[.int .i64 t.1, .bool t.2.1, .bool t.2.2]
theorem pto_w {A B T : Int} (hA : 0 ≤ A ∧ A ≤ 1099511627776) (hB : 0 ≤ B ∧ B ≤ 1099511627776) (hT : 0 ≤ T ∧ T ≤ 5) :
    IntKind.i64.wrap (4 * B) = 4 * B ∧ IntKind.i64.wrap (A + max (4 * B) 1) = A + max (4 * B) 1 ∧ IntKind.i64.wrap (A + max (4 * B) 1 + 25) = A + max (4 * B) 1 + 25 ∧
    IntKind.i64.wrap ((A + max (4 * B) 1 + 25) * 2 ^ min T.toNat 64) = (A + max (4 * B) 1 + 25) * 2 ^ T.toNat ∧ 0 ≤ (A + max (4 * B) 1 + 25) * 2 ^ T.toNat ∧ (A + max (4 * B) 1 + 25) * 2 ^ T.toNat ≤ 200000000000000 := by
  have m1 : 1 ≤ max (4 * B) 1 := by omega
  have m2 : max (4 * B) 1 ≤ 4398046511104 := mx_le (by omega) (by omega)
  generalize max (4 * B) 1 = M at *
  have hm : min T.toNat 64 = T.toNat := by omega
  rw [hm]
  have h32 : (2 : Int) ^ T.toNat = 1 ∨ (2 : Int) ^ T.toNat = 2 ∨ (2 : Int) ^ T.toNat = 4 ∨ (2 : Int) ^ T.toNat = 8 ∨ (2 : Int) ^ T.toNat = 16 ∨ (2 : Int) ^ T.toNat = 32 := by
    have : T.toNat = 0 ∨ T.toNat = 1 ∨ T.toNat = 2 ∨ T.toNat = 3 ∨ T.toNat = 4 ∨ T.toNat = 5 := by omega
    rcases this with h | h | h | h | h | h <;> rw [h] <;> decide
  refine ⟨i64wrap (by omega) (by omega), i64wrap (by omega) (by omega), i64wrap (by omega) (by omega), ?_⟩
  rcases h32 with h | h | h | h | h | h <;> rw [h] <;> exact ⟨i64wrap (by omega) (by omega), by omega, by omega⟩
theorem timer_ph (h : Heap) (p : Nat) (wv : Value) (s : St) (o : Own) (hpn : p < h.next) (hp : h.get p = .live (.cells (stC wv s) o)) (hr : RowIn pkE h wv s.waits) (hlt : ∀ A n st, wv = .slice (some A) n st → A.block < h.next) (hs : Ok s) :
    @CallsH Try.prog 39 #[.pointer (some ⟨p, 0, none⟩)] h ⟨fun u _ => u = tup3 (timerS s)⟩ := by
  obtain ⟨A, st, hv⟩ := hr.form
  have hlen := hs.len
  have n1 : (p = h.next) = False := eq_false (by omega)
  have hTn : ∀ x ∈ s.waits, 0 ≤ x.at_ ∧ x.at_ ≤ 1099511627776 := fun x hx => by have := hs.pk x hx; have := hs.now; omega
  cases hw : s.waits with
  | nil =>
    have e : timerS s = (0, false, false) := by unfold timerS; rw [hw]
    rw [hw] at hv
    have hcl : (((List.length ([] : List Pk)) : Int) = 0) = True := by simp
    (refine calls_of_vcR (rs := [.cell 2 3, .cell 3 4, .cell 4 4]) [] hm Try.func39 rfl rfl (by kernel_rfl) (by simp) ?_; simp (config := { dsimp := false, maxSteps := 10000000 }) (disch := omega) only [go_sem, reduceIte, Nat.reduceEqDiff, reduceCtorEq, Nat.reduceAdd, Nat.reduceMul, Int.reduceToNat, Int.reduceLE, Int.reduceLT, Int.reduceEq, Int.reduceNe, Nat.reduceLeDiff, Int.reducePow, Nat.reducePow, Nat.reduceLT, Nat.reduceSub, Nat.reduceMod, Nat.reduceDiv, slot_neg, slot_pos, T.ag_24, T.ag_3, T.ag_4, T.ag_61, T.ag_66, T.es_61, T.fo_63_0, T.fo_63_12, T.fo_63_2, T.fo_63_3, T.fo_63_4, T.fo_66_0, T.fo_66_2, T.fo_66_3, T.gf_50, T.gf_52, T.ib_24, T.ib_3, T.ii_61, T.ip_24, T.ip_3, T.s8_61, T.sl_61, T.st_61, T.un_61, T.zo_3, T.zo_4, T.zo_66, init_a, hp, stC, hv, tup3])
    rw [e]
  | cons x l =>
    have hne : ((s.waits.length : Int) = 0) = False := eq_false (by rw [hw, List.length_cons]; omega)
    have hlpos : (0 < (s.waits.length : Int)) = True := eq_true (by rw [hw, List.length_cons]; omega)
    rcases id hr with ⟨_, hnil⟩ | ⟨q, off, vs, o2, hv', hq, hR⟩
    · rw [hw] at hnil; cases hnil
    · have hx0 : s.waits[0]? = some x := by rw [hw]; rfl
      have ha := hR.at hx0
      have hqn := hlt _ _ _ hv'
      simp only at hqn
      have h1' : List.take 4 (List.drop off vs) = [.int .i64 x.num, .int .i64 x.size, .int .i64 x.at_, .bool x.asks] := ha.1
      have h2' : off + 4 ≤ vs.length := ha.2
      have hK : pkE.k = 4 := rfl
      have hTx := hTn x (by rw [hw]; simp)
      by_cases hb : x.num < s.best
      · have hwt : 1 ≤ waitT s ∧ waitT s ≤ 1300000000000 := by have b1 := hs.smooth; have b2 := hs.last; unfold waitT; omega
        have ww : IntKind.i64.wrap (x.at_ + waitT s) = x.at_ + waitT s := i64wrap (by omega) (by omega)
        have e : timerS s = (x.at_ + waitT s, true, true) := by unfold timerS; rw [hw]; simp only []; rw [if_pos hb]
        (refine calls_of_codeR (rs := [.cell 2 3, .cell 3 4, .cell 4 4]) Try.func39 rfl rfl (by simp) ?_)
        (refine CodeH.seq' (CodeH.of_vc [] hm (by kernel_rfl) ?_); simp (config := { dsimp := false, maxSteps := 10000000 }) (disch := omega) only [go_sem, reduceIte, Nat.reduceEqDiff, reduceCtorEq, Nat.reduceAdd, Nat.reduceMul, Int.reduceToNat, Int.reduceLE, Int.reduceLT, Int.reduceEq, Int.reduceNe, Nat.reduceLeDiff, Int.reducePow, Nat.reducePow, Nat.reduceLT, Nat.reduceSub, Nat.reduceMod, Nat.reduceDiv, slot_neg, slot_pos, T.ag_24, T.ag_3, T.ag_4, T.ag_61, T.ag_66, T.es_61, T.fo_63_0, T.fo_63_12, T.fo_63_2, T.fo_63_3, T.fo_63_4, T.fo_66_0, T.fo_66_2, T.fo_66_3, T.gf_50, T.gf_52, T.ib_24, T.ib_3, T.ii_61, T.ip_24, T.ip_3, T.s8_61, T.sl_61, T.st_61, T.un_61, T.zo_3, T.zo_4, T.zo_66, init_a])
        (refine CodeH.seq' (CodeH.of_vc [] hm (by kernel_rfl) ?_); simp (config := { dsimp := false, maxSteps := 10000000 }) (disch := omega) only [go_sem, reduceIte, Nat.reduceEqDiff, reduceCtorEq, Nat.reduceAdd, Nat.reduceMul, Int.reduceToNat, Int.reduceLE, Int.reduceLT, Int.reduceEq, Int.reduceNe, Nat.reduceLeDiff, Int.reducePow, Nat.reducePow, Nat.reduceLT, Nat.reduceSub, Nat.reduceMod, Nat.reduceDiv, slot_neg, slot_pos, T.ag_24, T.ag_3, T.ag_4, T.ag_61, T.ag_66, T.es_61, T.fo_63_0, T.fo_63_12, T.fo_63_2, T.fo_63_3, T.fo_63_4, T.fo_66_0, T.fo_66_2, T.fo_66_3, T.gf_50, T.gf_52, T.ib_24, T.ib_3, T.ii_61, T.ip_24, T.ip_3, T.s8_61, T.sl_61, T.st_61, T.un_61, T.zo_3, T.zo_4, T.zo_66, init_a, hp, stC, hv', hne])
        (refine CodeH.seq' (CodeH.of_vc [] hm (by kernel_rfl) ?_); simp (config := { dsimp := false, maxSteps := 10000000 }) (disch := omega) only [go_sem, reduceIte, Nat.reduceEqDiff, reduceCtorEq, Nat.reduceAdd, Nat.reduceMul, Int.reduceToNat, Int.reduceLE, Int.reduceLT, Int.reduceEq, Int.reduceNe, Nat.reduceLeDiff, Int.reducePow, Nat.reducePow, Nat.reduceLT, Nat.reduceSub, Nat.reduceMod, Nat.reduceDiv, slot_neg, slot_pos, T.ag_24, T.ag_3, T.ag_4, T.ag_61, T.ag_66, T.es_61, T.fo_63_0, T.fo_63_12, T.fo_63_2, T.fo_63_3, T.fo_63_4, T.fo_66_0, T.fo_66_2, T.fo_66_3, T.gf_50, T.gf_52, T.ib_24, T.ib_3, T.ii_61, T.ip_24, T.ip_3, T.s8_61, T.sl_61, T.st_61, T.un_61, T.zo_3, T.zo_4, T.zo_66, init_a, hp, stC, hv', hlpos, hq, h1', hb, hK])
        refine ⟨h2', ?_⟩
        refine draw_plan [h.next + 1, h.next + 2, h.next + 3] (.takeS 2 (.take 0 (.take 1 (.alt 3 (.takeS 4 (.alt 5 (.alt 6 (.alt 7 .done .stop) .stop) .stop)) .stop)))) hm (by kernel_rfl) (by kernel_rfl) ?_
        simp (config := { dsimp := false, maxSteps := 10000000 }) (disch := omega) only [go_sem, reduceIte, Nat.reduceEqDiff, reduceCtorEq, Nat.reduceAdd, Nat.reduceMul, Int.reduceToNat, Int.reduceLE, Int.reduceLT, Int.reduceEq, Int.reduceNe, Nat.reduceLeDiff, Int.reducePow, Nat.reducePow, Nat.reduceLT, Nat.reduceSub, Nat.reduceMod, Nat.reduceDiv, slot_neg, slot_pos, T.ag_24, T.ag_3, T.ag_4, T.ag_61, T.ag_66, T.es_61, T.fo_63_0, T.fo_63_12, T.fo_63_2, T.fo_63_3, T.fo_63_4, T.fo_66_0, T.fo_66_2, T.fo_66_3, T.gf_50, T.gf_52, T.ib_24, T.ib_3, T.ii_61, T.ip_24, T.ip_3, T.s8_61, T.sl_61, T.st_61, T.un_61, T.zo_3, T.zo_4, T.zo_66, hp, stC, hv']
        refine CallsH.pure _ rfl (waitT_ph _ p wv s _ (by rw [get_ro, get_mask]; simp (config := { dsimp := false }) (disch := omega) only [get_alloc, get_put, get_app, next_alloc, next_put, next_app, get_mask, get_unmask, next_mask, next_unmask, List.mem_cons, List.not_mem_nil, or_false, true_or, or_true, false_or, and_true, true_and, and_false, false_and, not_true_eq_false, not_false_eq_true, ne_eq, reduceIte, slot_neg, slot_pos, hp]; simp only [lock_live', lock_cells]; rfl) hs) ?_
        simp (config := { dsimp := false, maxSteps := 10000000 }) (disch := omega) only [go_sem, reduceIte, Nat.reduceEqDiff, reduceCtorEq, Nat.reduceAdd, Nat.reduceMul, Int.reduceToNat, Int.reduceLE, Int.reduceLT, Int.reduceEq, Int.reduceNe, Nat.reduceLeDiff, Int.reducePow, Nat.reducePow, Nat.reduceLT, Nat.reduceSub, Nat.reduceMod, Nat.reduceDiv, slot_neg, slot_pos, T.ag_24, T.ag_3, T.ag_4, T.ag_61, T.ag_66, T.es_61, T.fo_63_0, T.fo_63_12, T.fo_63_2, T.fo_63_3, T.fo_63_4, T.fo_66_0, T.fo_66_2, T.fo_66_3, T.gf_50, T.gf_52, T.ib_24, T.ib_3, T.ii_61, T.ip_24, T.ip_3, T.s8_61, T.sl_61, T.st_61, T.un_61, T.zo_3, T.zo_4, T.zo_66, hp, stC, hv', ww, tup3]
        rw [e]
      · have e : timerS s = match lastAsk s.waits with | some y => (y.at_ + ptoT s, true, false) | none => (0, false, false) := by unfold timerS; rw [hw]; simp only []; rw [if_neg hb]
        (refine calls_of_codeR (rs := [.cell 2 3, .cell 3 4, .cell 4 4]) Try.func39 rfl rfl (by simp) ?_)
        (refine CodeH.seq' (CodeH.of_vc [] hm (by kernel_rfl) ?_); simp (config := { dsimp := false, maxSteps := 10000000 }) (disch := omega) only [go_sem, reduceIte, Nat.reduceEqDiff, reduceCtorEq, Nat.reduceAdd, Nat.reduceMul, Int.reduceToNat, Int.reduceLE, Int.reduceLT, Int.reduceEq, Int.reduceNe, Nat.reduceLeDiff, Int.reducePow, Nat.reducePow, Nat.reduceLT, Nat.reduceSub, Nat.reduceMod, Nat.reduceDiv, slot_neg, slot_pos, T.ag_24, T.ag_3, T.ag_4, T.ag_61, T.ag_66, T.es_61, T.fo_63_0, T.fo_63_12, T.fo_63_2, T.fo_63_3, T.fo_63_4, T.fo_66_0, T.fo_66_2, T.fo_66_3, T.gf_50, T.gf_52, T.ib_24, T.ib_3, T.ii_61, T.ip_24, T.ip_3, T.s8_61, T.sl_61, T.st_61, T.un_61, T.zo_3, T.zo_4, T.zo_66, init_a])
        (refine CodeH.seq' (CodeH.of_vc [] hm (by kernel_rfl) ?_); simp (config := { dsimp := false, maxSteps := 10000000 }) (disch := omega) only [go_sem, reduceIte, Nat.reduceEqDiff, reduceCtorEq, Nat.reduceAdd, Nat.reduceMul, Int.reduceToNat, Int.reduceLE, Int.reduceLT, Int.reduceEq, Int.reduceNe, Nat.reduceLeDiff, Int.reducePow, Nat.reducePow, Nat.reduceLT, Nat.reduceSub, Nat.reduceMod, Nat.reduceDiv, slot_neg, slot_pos, T.ag_24, T.ag_3, T.ag_4, T.ag_61, T.ag_66, T.es_61, T.fo_63_0, T.fo_63_12, T.fo_63_2, T.fo_63_3, T.fo_63_4, T.fo_66_0, T.fo_66_2, T.fo_66_3, T.gf_50, T.gf_52, T.ib_24, T.ib_3, T.ii_61, T.ip_24, T.ip_3, T.s8_61, T.sl_61, T.st_61, T.un_61, T.zo_3, T.zo_4, T.zo_66, init_a, hp, stC, hv', hne])
        (refine CodeH.seq' (CodeH.of_vc [] hm (by kernel_rfl) ?_); simp (config := { dsimp := false, maxSteps := 10000000 }) (disch := omega) only [go_sem, reduceIte, Nat.reduceEqDiff, reduceCtorEq, Nat.reduceAdd, Nat.reduceMul, Int.reduceToNat, Int.reduceLE, Int.reduceLT, Int.reduceEq, Int.reduceNe, Nat.reduceLeDiff, Int.reducePow, Nat.reducePow, Nat.reduceLT, Nat.reduceSub, Nat.reduceMod, Nat.reduceDiv, slot_neg, slot_pos, T.ag_24, T.ag_3, T.ag_4, T.ag_61, T.ag_66, T.es_61, T.fo_63_0, T.fo_63_12, T.fo_63_2, T.fo_63_3, T.fo_63_4, T.fo_66_0, T.fo_66_2, T.fo_66_3, T.gf_50, T.gf_52, T.ib_24, T.ib_3, T.ii_61, T.ip_24, T.ip_3, T.s8_61, T.sl_61, T.st_61, T.un_61, T.zo_3, T.zo_4, T.zo_66, init_a, hp, stC, hv', hlpos, hq, h1', hb, hK])
        refine ⟨h2', ?_⟩
        obtain ⟨H0, hH0⟩ : ∃ H0, Heap.put (Heap.alloc (Heap.alloc (Heap.alloc (Heap.alloc (Heap.alloc h (.cells [.pointer (some ⟨p, 0, none⟩)] .own)) (.cells [.int .i64 0] .own)) (.cells [.bool false] .own)) (.cells [.bool false] .own)) (.cells [.int .i64 0, .int .i64 0, .int .i64 0, .bool false] .own)) (h.next + 1 + 1 + 1 + 1) (.live (.cells [.int .i64 x.num, .int .i64 x.size, .int .i64 x.at_, .bool x.asks] .own)) = H0 := ⟨_, rfl⟩
        rw [hH0]
        have g0 : H0.get h.next = .live (.cells [.pointer (some ⟨p, 0, none⟩)] .own) := by rw [← hH0]; simp (config := { dsimp := false }) (disch := omega) only [get_alloc, get_put, get_app, next_alloc, next_put, next_app, get_mask, get_unmask, next_mask, next_unmask, List.mem_cons, List.not_mem_nil, or_false, true_or, or_true, false_or, and_true, true_and, and_false, false_and, not_true_eq_false, not_false_eq_true, ne_eq, reduceIte, slot_neg, slot_pos]
        have g1 : H0.get (h.next + 1) = .live (.cells [.int .i64 0] .own) := by rw [← hH0]; simp (config := { dsimp := false }) (disch := omega) only [get_alloc, get_put, get_app, next_alloc, next_put, next_app, get_mask, get_unmask, next_mask, next_unmask, List.mem_cons, List.not_mem_nil, or_false, true_or, or_true, false_or, and_true, true_and, and_false, false_and, not_true_eq_false, not_false_eq_true, ne_eq, reduceIte, slot_neg, slot_pos]
        have g2 : H0.get (h.next + 2) = .live (.cells [.bool false] .own) := by rw [← hH0]; simp (config := { dsimp := false }) (disch := omega) only [get_alloc, get_put, get_app, next_alloc, next_put, next_app, get_mask, get_unmask, next_mask, next_unmask, List.mem_cons, List.not_mem_nil, or_false, true_or, or_true, false_or, and_true, true_and, and_false, false_and, not_true_eq_false, not_false_eq_true, ne_eq, reduceIte, slot_neg, slot_pos]
        have g3 : H0.get (h.next + 3) = .live (.cells [.bool false] .own) := by rw [← hH0]; simp (config := { dsimp := false }) (disch := omega) only [get_alloc, get_put, get_app, next_alloc, next_put, next_app, get_mask, get_unmask, next_mask, next_unmask, List.mem_cons, List.not_mem_nil, or_false, true_or, or_true, false_or, and_true, true_and, and_false, false_and, not_true_eq_false, not_false_eq_true, ne_eq, reduceIte, slot_neg, slot_pos]
        have gk : ∀ id, id < h.next → H0.get id = h.get id := fun id hid => by rw [← hH0]; simp (config := { dsimp := false }) (disch := omega) only [get_alloc, get_put, get_app, next_alloc, next_put, next_app, get_mask, get_unmask, next_mask, next_unmask, List.mem_cons, List.not_mem_nil, or_false, true_or, or_true, false_or, and_true, true_and, and_false, false_and, not_true_eq_false, not_false_eq_true, ne_eq, reduceIte, slot_neg, slot_pos]
        have hn0 : H0.next = h.next + 5 := by rw [← hH0]; rfl
        clear hH0
        have gp := (gk p hpn).trans hp
        (refine CodeH.seq' (CodeH.of_vc [] hm (by kernel_rfl) ?_); simp (config := { dsimp := false, maxSteps := 10000000 }) (disch := omega) only [go_sem, reduceIte, Nat.reduceEqDiff, reduceCtorEq, Nat.reduceAdd, Nat.reduceMul, Int.reduceToNat, Int.reduceLE, Int.reduceLT, Int.reduceEq, Int.reduceNe, Nat.reduceLeDiff, Int.reducePow, Nat.reducePow, Nat.reduceLT, Nat.reduceSub, Nat.reduceMod, Nat.reduceDiv, slot_neg, slot_pos, T.ag_24, T.ag_3, T.ag_4, T.ag_61, T.ag_66, T.es_61, T.fo_63_0, T.fo_63_12, T.fo_63_2, T.fo_63_3, T.fo_63_4, T.fo_66_0, T.fo_66_2, T.fo_66_3, T.gf_50, T.gf_52, T.ib_24, T.ib_3, T.ii_61, T.ip_24, T.ip_3, T.s8_61, T.sl_61, T.st_61, T.un_61, T.zo_3, T.zo_4, T.zo_66, init_a, g0, gp, stC])
        have hrow0 : RowIn pkE H0 wv s.waits := hr.upd fun A n st e => gk _ (hlt A n st e)
        have hw0 : ∀ A n st, wv = .slice (some A) n st → A.block < H0.next := fun A n st e => by have := hlt A n st e; omega
        refine (BackPk_ph H0 wv s.waits hrow0).mono fun u2 H3 ⟨e1, e2⟩ => ?_
        subst e1 e2
        simp (config := { dsimp := false, maxSteps := 10000000 }) (disch := omega) only [go_sem, reduceIte, Nat.reduceEqDiff, reduceCtorEq, Nat.reduceAdd, Nat.reduceMul, Int.reduceToNat, Int.reduceLE, Int.reduceLT, Int.reduceEq, Int.reduceNe, Nat.reduceLeDiff, Int.reducePow, Nat.reducePow, Nat.reduceLT, Nat.reduceSub, Nat.reduceMod, Nat.reduceDiv, slot_neg, slot_pos, T.ag_24, T.ag_3, T.ag_4, T.ag_61, T.ag_66, T.es_61, T.fo_63_0, T.fo_63_12, T.fo_63_2, T.fo_63_3, T.fo_63_4, T.fo_66_0, T.fo_66_2, T.fo_66_3, T.gf_50, T.gf_52, T.ib_24, T.ib_3, T.ii_61, T.ip_24, T.ip_3, T.s8_61, T.sl_61, T.st_61, T.un_61, T.zo_3, T.zo_4, T.zo_66]
        refine RF.gen (fun r => r 1 = .pointer (some ⟨h.next, 0, none⟩) ∧ r 2 = .pointer (some ⟨h.next + 1, 0, none⟩) ∧ r 3 = .pointer (some ⟨h.next + 2, 0, none⟩) ∧ r 4 = .pointer (some ⟨h.next + 3, 0, none⟩) ∧ r 40 = .func (.func 53) #[] #[.pointer (some ⟨H0.next, 0, none⟩)]) ⟨by simp [upd], by simp [upd], by simp [upd], by simp [upd], by simp [upd]⟩ fun r ⟨q1, q2, q3, q4, q40⟩ => ?_
        refine range_over q40 (by kernel_rfl) (BackPk_phS H0.next wv s.waits (by omega)) (fun args ha => ?_) (fun i H => H0.next + 1 < H.next ∧ (∀ id, id < H0.next → H.get id = H0.get id) ∧ H.get H0.next = .live (.cells [wv] .own) ∧ ∀ j, j < i → (s.waits[s.waits.length - 1 - j]?.getD ⟨0, 0, 0, false⟩).asks = false) ?_ ?_ ?_ ?_ ?_ ?_
        · obtain ⟨i, _, rfl⟩ := List.mem_map.1 ha; rfl
        · intro H hu1 hn1
          refine ⟨by rw [hn1]; simp [Heap.alloc], fun id hid => ?_, ?_, fun j hj => by omega⟩
          · rw [hu1.2 id (by simp [Heap.alloc]; omega) (by simp), get_alloc, if_neg (by omega)]
          · rw [hu1.2 _ (by simp [Heap.alloc]) (by simp), get_alloc, if_pos rfl]
        · rintro i H ⟨h1, h2, h3, _⟩
          exact ⟨_, h3, hrow0.upd fun A n st e => h2 _ (hw0 A n st e)⟩
        · rintro i H H' ⟨h1, h2, h3, h4⟩ hu
          exact ⟨Nat.lt_of_lt_of_le h1 hu.1, fun id hid => (hu.2 id (by omega) (by simp)).trans (h2 id hid), (hu.2 _ (by omega) (by simp)).trans h3, h4⟩
        · rintro i H x ⟨h1, h2, h3, h4⟩
          refine ⟨h1, fun id hid => ?_, ?_, h4⟩
          · rw [get_put, if_neg (by simp [Heap.alloc]; omega)]; exact h2 id hid
          · rw [get_put, if_neg (by simp [Heap.alloc])]; exact h3
        · rintro H x ⟨h1, h2, h3, h4⟩
          rw [lastAsk_none (fun j hj => h4 j (by simpa using hj))] at e
          rw [e]
          have kk1 := (h2 _ (by omega)).trans g1
          have kk2 := (h2 _ (by omega)).trans g2
          have kk3 := (h2 _ (by omega)).trans g3
          simp (config := { dsimp := false, maxSteps := 10000000 }) (disch := omega) only [go_sem, reduceIte, Nat.reduceEqDiff, reduceCtorEq, Nat.reduceAdd, Nat.reduceMul, Int.reduceToNat, Int.reduceLE, Int.reduceLT, Int.reduceEq, Int.reduceNe, Nat.reduceLeDiff, Int.reducePow, Nat.reducePow, Nat.reduceLT, Nat.reduceSub, Nat.reduceMod, Nat.reduceDiv, slot_neg, slot_pos, T.ag_24, T.ag_3, T.ag_4, T.ag_61, T.ag_66, T.es_61, T.fo_63_0, T.fo_63_12, T.fo_63_2, T.fo_63_3, T.fo_63_4, T.fo_66_0, T.fo_66_2, T.fo_66_3, T.gf_50, T.gf_52, T.ib_24, T.ib_3, T.ii_61, T.ip_24, T.ip_3, T.s8_61, T.sl_61, T.st_61, T.un_61, T.zo_3, T.zo_4, T.zo_66]
          (refine CodeH.of_vc [] hm (by kernel_rfl) ?_; simp (config := { dsimp := false, maxSteps := 10000000 }) (disch := omega) only [go_sem, reduceIte, Nat.reduceEqDiff, reduceCtorEq, Nat.reduceAdd, Nat.reduceMul, Int.reduceToNat, Int.reduceLE, Int.reduceLT, Int.reduceEq, Int.reduceNe, Nat.reduceLeDiff, Int.reducePow, Nat.reducePow, Nat.reduceLT, Nat.reduceSub, Nat.reduceMod, Nat.reduceDiv, slot_neg, slot_pos, T.ag_24, T.ag_3, T.ag_4, T.ag_61, T.ag_66, T.es_61, T.fo_63_0, T.fo_63_12, T.fo_63_2, T.fo_63_3, T.fo_63_4, T.fo_66_0, T.fo_66_2, T.fo_66_3, T.gf_50, T.gf_52, T.ib_24, T.ib_3, T.ii_61, T.ip_24, T.ip_3, T.s8_61, T.sl_61, T.st_61, T.un_61, T.zo_3, T.zo_4, T.zo_66, init_a, q2, q3, q4, kk1, kk2, kk3, tup3])
        · rintro n i args H B k1 k2 hx ⟨h1, h2, h3, h4⟩ hB hlt
          have hB' : H.get (H0.next + 1) = B := hB
          have hi : i < s.waits.length := by
            have := (List.getElem?_eq_some_iff.1 hx).1; simpa using this
          have hxx : s.waits[s.waits.length - 1 - i]? = some s.waits[s.waits.length - 1 - i] := List.getElem?_eq_getElem _
          rw [List.getElem?_map, List.getElem?_range hi, Option.map_some, hxx] at hx
          have hTy := hTn _ (List.getElem_mem (l := s.waits) (n := s.waits.length - 1 - i) (by omega))
          generalize s.waits[s.waits.length - 1 - i] = y at hx hxx hTy
          cases hx
          rw [show ∀ a b : Value, setP r (#[41, 42] : Array Nat).toList (#[a, b] : Array Value).toList = upd (upd r (some 41) a) (some 42) b from fun _ _ => rfl]
          have k0 := (h2 _ (by omega)).trans g0
          have kp := (h2 _ (by omega)).trans gp
          have kk1 := (h2 _ (by omega)).trans g1
          have kk2 := (h2 _ (by omega)).trans g2
          have kk3 := (h2 _ (by omega)).trans g3
          refine CodeH.of_vc [] hm k1 ?_
          have hen : pkE.enc y = [.int .i64 y.num, .int .i64 y.size, .int .i64 y.at_, .bool y.asks] := rfl
          simp (config := { dsimp := false, maxSteps := 10000000 }) (disch := omega) only [go_sem, reduceIte, Nat.reduceEqDiff, reduceCtorEq, Nat.reduceAdd, Nat.reduceMul, Int.reduceToNat, Int.reduceLE, Int.reduceLT, Int.reduceEq, Int.reduceNe, Nat.reduceLeDiff, Int.reducePow, Nat.reducePow, Nat.reduceLT, Nat.reduceSub, Nat.reduceMod, Nat.reduceDiv, slot_neg, slot_pos, T.ag_24, T.ag_3, T.ag_4, T.ag_61, T.ag_66, T.es_61, T.fo_63_0, T.fo_63_12, T.fo_63_2, T.fo_63_3, T.fo_63_4, T.fo_66_0, T.fo_66_2, T.fo_66_3, T.gf_50, T.gf_52, T.ib_24, T.ib_3, T.ii_61, T.ip_24, T.ip_3, T.s8_61, T.sl_61, T.st_61, T.un_61, T.zo_3, T.zo_4, T.zo_66, hen, hB']
          refine fun B' => CodeH.of_vc [] hm k2 ?_
          cases hax : y.asks with
          | false =>
            simp (config := { dsimp := false, maxSteps := 10000000 }) (disch := omega) only [go_sem, reduceIte, Nat.reduceEqDiff, reduceCtorEq, Nat.reduceAdd, Nat.reduceMul, Int.reduceToNat, Int.reduceLE, Int.reduceLT, Int.reduceEq, Int.reduceNe, Nat.reduceLeDiff, Int.reducePow, Nat.reducePow, Nat.reduceLT, Nat.reduceSub, Nat.reduceMod, Nat.reduceDiv, slot_neg, slot_pos, T.ag_24, T.ag_3, T.ag_4, T.ag_61, T.ag_66, T.es_61, T.fo_63_0, T.fo_63_12, T.fo_63_2, T.fo_63_3, T.fo_63_4, T.fo_66_0, T.fo_66_2, T.fo_66_3, T.gf_50, T.gf_52, T.ib_24, T.ib_3, T.ii_61, T.ip_24, T.ip_3, T.s8_61, T.sl_61, T.st_61, T.un_61, T.zo_3, T.zo_4, T.zo_66, hax]
            refine ⟨by omega, by omega, fun id hid => ?_, h3, fun j hj => ?_⟩
            · rw [if_neg (by omega), if_neg (by omega)]; exact h2 id hid
            · rcases Nat.lt_succ_iff_lt_or_eq.1 hj with hj | rfl
              · exact h4 j hj
              · rw [hxx]; exact hax
          | true =>
            rw [lastAsk_some hi hxx hax h4] at e
            rw [e]
            have b1 := hs.smooth
            have b2 := hs.vary
            have b3 := hs.tries
            obtain ⟨w1, w2, w3, w4, w5, w6⟩ := pto_w b1 b2 b3
            have w7 : IntKind.i64.wrap (y.at_ + ptoT s) = y.at_ + ptoT s := i64wrap (by unfold ptoT; omega) (by unfold ptoT; omega)
            simp (config := { dsimp := false, maxSteps := 10000000 }) (disch := omega) only [go_sem, reduceIte, Nat.reduceEqDiff, reduceCtorEq, Nat.reduceAdd, Nat.reduceMul, Int.reduceToNat, Int.reduceLE, Int.reduceLT, Int.reduceEq, Int.reduceNe, Nat.reduceLeDiff, Int.reducePow, Nat.reducePow, Nat.reduceLT, Nat.reduceSub, Nat.reduceMod, Nat.reduceDiv, slot_neg, slot_pos, T.ag_24, T.ag_3, T.ag_4, T.ag_61, T.ag_66, T.es_61, T.fo_63_0, T.fo_63_12, T.fo_63_2, T.fo_63_3, T.fo_63_4, T.fo_66_0, T.fo_66_2, T.fo_66_3, T.gf_50, T.gf_52, T.ib_24, T.ib_3, T.ii_61, T.ip_24, T.ip_3, T.s8_61, T.sl_61, T.st_61, T.un_61, T.zo_3, T.zo_4, T.zo_66, hax]
            refine draw_plan [h.next + 1, h.next + 2, h.next + 3] (.takeS 0 (.takeS 1 (.takeS 2 (.takeS 3 (.takeS 4 (.takeS 5 (.takeS 6 (.takeS 7 (.takeS 8 (.takeS 9 (.takeS 10 (.takeS 11 (.takeS 12 (.takeS 13 (.takeS 14 (.takeS 15 (.takeS 16 (.takeS 17 (.takeS 18 (.takeS 19 (.alt 20 (.alt 21 (.alt 22 .done .stop) .stop) .stop))))))))))))))))))))) hm (by kernel_rfl) (by kernel_rfl) ?_
            have ht : (0 ≤ s.tries) = True := eq_true b3.1
            simp (config := { dsimp := false, maxSteps := 10000000 }) (disch := omega) only [go_sem, reduceIte, Nat.reduceEqDiff, reduceCtorEq, Nat.reduceAdd, Nat.reduceMul, Int.reduceToNat, Int.reduceLE, Int.reduceLT, Int.reduceEq, Int.reduceNe, Nat.reduceLeDiff, Int.reducePow, Nat.reducePow, Nat.reduceLT, Nat.reduceSub, Nat.reduceMod, Nat.reduceDiv, slot_neg, slot_pos, T.ag_24, T.ag_3, T.ag_4, T.ag_61, T.ag_66, T.es_61, T.fo_63_0, T.fo_63_12, T.fo_63_2, T.fo_63_3, T.fo_63_4, T.fo_66_0, T.fo_66_2, T.fo_66_3, T.gf_50, T.gf_52, T.ib_24, T.ib_3, T.ii_61, T.ip_24, T.ip_3, T.s8_61, T.sl_61, T.st_61, T.un_61, T.zo_3, T.zo_4, T.zo_66, q1, q2, q3, q4, k0, kp, kk1, kk2, kk3, stC, w1, w2, w3, w4, maxl, ht]
            exact fun _ => by rw [tup3, ← w7]; rfl
end Ph
