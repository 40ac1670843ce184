import Derived.Test.YtliblomkhapibaaL23
set_option maxRecDepth 100000
set_option maxHeartbeats 4000000
set_option linter.unusedSimpArgs false
set_option linter.unusedVariables false
namespace Ph
open Go Go.Proofs
attribute [local irreducible] Value.cells
attribute [local go_sem ↓] y_move y_assign y_pick y_nil y_bin y_un y_fa y_field y_ext y_ia y_ix y_slice y_build y_mf y_load y_len y_min y_max y_conv y_bs y_mk y_alloc y_box y_store y_clear y_app y_callf y_callt s_move s_assign s_pick s_nil s_bin s_un s_fa s_field s_ext s_ia s_ix s_slice s_conv s_build s_bs s_mf s_alloc s_box s_load s_store s_len s_clear s_min s_max s_app s_call q_call q_move q_assign q_pick q_nil q_bin q_un q_fa q_field q_ext q_ia q_ix q_slice q_conv q_build q_mf q_load q_len q_min q_max l_nil l_move l_assign l_pick l_nilc l_bin l_un l_fa l_field l_ext l_ia l_ix l_slice l_conv l_build l_mf l_load l_len l_min l_max l_call put_eq putN_eq o_nil o_plain o_gate v_nil v_plain v_gate vc_skip vc_region vc_seq vc_cond vc_block vc_loop vc_rf vc_exit vc_ret blk_normal blk_ret blk_exit on_normal on_ret on_exit vc_drawn draw_q s_mk l_bs l_mk l_alloc l_box l_store l_app l_clear pl_done pl_takeS pl_take pl_alt pl_stop one_plain one_gate
attribute [local go_sem] clear_nil clear_sl onAgg_a onTuple_t onFn_f onFn_y onFunc_f c_int c_nil c_sl c_str sl_sl sl_nil sl_str ix_str ix_agg n_nil n_sl n_str app_eq k_nil k_sl len_sl len_str upd_some upd_none ev_tmp ev_const ev_func rd_some gdst_eq otmp_t otmp_c get_put get_alloc next_put next_alloc get_app next_app init_a resV1 resV2 onPtr_ptr onBool_b onInt_i onSlice_s onSome_s onCells_c lett_eq gate_tt gate_tf gate_ff gate_ft gate_dt gate_df also_eq bin un minmax io_none io_some bo_none bo_some partOf List.getElem?_cons_zero List.getElem?_cons_succ List.getElem?_toArray Option.map_some Option.map_none Option.bind_some ne_eq not_true_eq_false not_false_eq_true false_implies true_implies and_true true_and and_self Bool.false_eq_true Nat.zero_add Nat.add_zero List.size_toArray List.length_cons List.length_nil List.map_toArray List.map_cons List.map_nil Array.getD_eq_getD_getElem? Option.getD_some Bool.not_true Bool.not_false Bool.not_eq_true Option.isNone_some Option.isNone_none List.append_toArray List.append_nil List.nil_append List.cons_append decide_true decide_false in_nil in_cons Bool.and_false Bool.and_true Bool.or_false Bool.true_or Bool.false_or get_mask next_mask get_unmask next_unmask ac_move ac_assign ac_pick ac_nil ac_bin ac_un ac_fa ac_field ac_ext ac_ia ac_ix ac_slice ac_build ac_mf ac_call ac_load ac_conv accP_p accS_s accS_n accS_i accS_t fixed_ro fixed_lock fixed_own get_ro next_ro lock_live' lock_cells List.mem_cons List.not_mem_nil or_false false_or or_true true_or and_false false_and IntKind.bits Int.natCast_zero Int.natCast_one size_str data_str list_str mk_str ext_str app_str bytes_str w_byte w_byteu Int.toNat_natCast Int.toNat_zero Int.toNat_one Nat.sub_zero ge_iff_le gt_iff_lt Nat.le_refl Int.le_refl List.drop_zero Int.ofNat_eq_natCast Int.natCast_nonneg Int.sub_zero oc_int oc_bool oc_str oc_ptr oc_sl oc_map oc_func List.set_cons_zero List.set_cons_succ Nat.mul_one List.all_cons List.all_nil Bool.and_self res_nil res_tmp res_cell tup_one tup_two tup_nil fill_nil repl_zero cells_agg List.append_eq List.toList_toArray Nat.zero_mul Nat.one_mul repl_one repl_two onSome_build fill_cons onSome_lit splice_eq cells_int cells_bool cells_str cells_ptr cells_sl cells_map cells_func loadK_n loadK_s load_k storeK_n storeK_s store_k all_arr List.take_zero List.take_succ_cons List.drop_succ_cons List.take_nil List.drop_nil lk_own lk_ro lk_lock lk_lk fixed_lk gate_nt gate_nf gate3_b gate3_u undef Bool.true_and Bool.false_and nx_l nx_r nx_lt put_put resV0
/-! Rounds of a loop, piece by piece (loop_introC): what a body's pieces are allowed to be, from the body. -/
theorem okl {n : Nat} {a b : Code} (h : okCode n (.seq a b) = true) : okCode n a = true := by simp only [okCode, Bool.and_eq_true] at h; exact h.1
theorem okr {n : Nat} {a b : Code} (h : okCode n (.seq a b) = true) : okCode n b = true := by simp only [okCode, Bool.and_eq_true] at h; exact h.2
theorem okb {n i : Nat} {a : Code} (h : okCode n (.block i a) = true) : okCode n a = true := h
theorem okc {n : Nat} {c : Operand} {a b : Code} (h : okCode n (.cond c a b) = true) : okArg c = true ∧ okCode n a = true ∧ okCode n b = true := by
  simp only [okCode, Bool.and_eq_true] at h; exact ⟨h.1.1, h.1.2, h.2⟩
theorem CodeH.block {P : Program} {n : Nat} {id : Nat} {c : Code} {Q : Qt} {r : Regs} {h : Heap} (h1 : CodeH P n c (fun e r h => e.blk Q id r h) r h) : CodeH P n (.block id c) Q r h := fun ro lo ρ W a hro hlo hC hr => by
  refine wpIn_block (wpIn_mono (h1 ro lo ρ W a hro hlo hC hr) (fun e a' W' hq => ?_))
  obtain ⟨ex, hx, ρ', r', h', c1, c2, c3, c4⟩ := hq
  cases e with
  | normal => cases ex <;> first | exact hx.elim | exact ⟨_, hx, ρ', r', h', c1, c2, c3, c4⟩
  | exit i =>
    cases ex with
    | exit j =>
      cases hx
      simp only [Exit.inBlock]
      simp only [Ex.blk] at c4
      split
      · rename_i e; rw [if_pos e] at c4; exact ⟨.normal, trivial, ρ', r', h', c1, c2, c3, c4⟩
      · rename_i e; rw [if_neg e] at c4; exact ⟨.exit i, rfl, ρ', r', h', c1, c2, c3, c4⟩
    | _ => exact hx.elim
  | ret => cases ex <;> first | exact hx.elim | exact ⟨_, hx, ρ', r', h', c1, c2, c3, c4⟩
  | goto l => cases ex <;> exact hx.elim
  | panic ch => cases ex <;> exact hx.elim
  | outgrown => cases ex <;> exact hx.elim
def boolE : Enc Bool := ⟨1, fun x => [.bool x], fun _ => rfl, fun _ => rfl⟩
theorem fire_len (s : St) (at_ : Int) (hn : s.now ≤ at_) : (fireS s at_).2.1.length ≤ s.waits.length ∧ (fireS s at_).1.now ≤ at_ := by
  unfold fireS
  split
  · simp only
    split
    · split
      · refine ⟨?_, by rw [(give_waits _ _).2.2]; exact Int.le_refl _⟩
        show ((giveL { s with now := at_ } at_).map (·.num)).length ≤ _
        rw [List.length_map]; exact List.length_filter_le _ _
      · exact ⟨by simp, Int.le_refl _⟩
    · exact ⟨by simp, Int.le_refl _⟩
  · exact ⟨by simp, hn⟩
theorem ack_len (s : St) (l : List Sp) (delay at_ : Int) (hn : s.now ≤ at_) : (ackS s l delay at_).2.1.length ≤ s.waits.length ∧ (ackS s l delay at_).2.2.1.length ≤ s.waits.length ∧ (ackS s l delay at_).1.now ≤ at_ := by
  unfold ackS
  split
  · split
    · simp only
      obtain ⟨k1, k2, k3⟩ := ack3_keep (ack1 s l at_) (ackL s l) delay at_
      refine ⟨?_, ?_, by rw [(give_waits _ _).2.2, k3]; exact Int.le_refl _⟩
      · rw [List.length_map]; exact List.length_filter_le _ _
      · rw [List.length_map]
        refine Nat.le_trans (List.length_filter_le _ _) ?_
        rw [k1]; exact List.length_filter_le _ _
    · exact ⟨by simp, by simp, hn⟩
  · exact ⟨by simp, by simp, hn⟩
/-- the law's own things: its state, its two rows -/
structure OO (h : Heap) (p : Nat) (v4 v5 : Value) (al : List Pk) (told : List Bool) (s : St) (D D4 D5 : List Nat) (H : Heap) : Prop where
  st : StR H p D s
  sizes : OwnRow intE H v4 D4 (al.map (·.size))
  tolds : OwnRow boolE H v5 D5 told
  inv : OI al told s
  new : h.next ≤ p ∧ (∀ d ∈ D, h.next ≤ d) ∧ (∀ d ∈ D4, h.next ≤ d) ∧ ∀ d ∈ D5, h.next ≤ d
  apart : (∀ d ∈ D4, d ≠ p ∧ d ∉ D ∧ d ∉ D5) ∧ ∀ d ∈ D5, d ≠ p ∧ d ∉ D
  upd : Upd h H []
/-- the same, when some were told and this is not yet written down -/
structure OP (h : Heap) (p : Nat) (v4 v5 v9 : Value) (al : List Pk) (told : List Bool) (s s' : St) (l : List Int) (D D4 D5 : List Nat) (H : Heap) : Prop where
  st : StR H p D s'
  sizes : OwnRow intE H v4 D4 (al.map (·.size))
  tolds : OwnRow boolE H v5 D5 told
  inv : OI al told s
  tells : Tells s s' l
  ok : Ok s'
  row : NumR H v9 l
  rowa : ∀ A n st, v9 = .slice (some A) n st → A.block ∉ D5
  new : h.next ≤ p ∧ (∀ d ∈ D, h.next ≤ d) ∧ (∀ d ∈ D4, h.next ≤ d) ∧ ∀ d ∈ D5, h.next ≤ d
  apart : (∀ d ∈ D4, d ≠ p ∧ d ∉ D ∧ d ∉ D5) ∧ ∀ d ∈ D5, d ≠ p ∧ d ∉ D
  upd : Upd h H []
theorem lossOnce_ph (h : Heap) (l0 : List EvI) (s0 : Value) (hs0 : SlR evRd h s0 l0) (wf0 : (l0.length ≤ maxLen ∧ ∀ x ∈ l0, ((Lit.int .i64 x.1).wf = true ∧ (Lit.int .i64 x.2.1).wf = true ∧ (Lit.int .i64 x.2.2.1).wf = true ∧ True ∧ (x.2.2.2.2.1.length ≤ maxLen ∧ ∀ y ∈ x.2.2.2.2.1, ((Lit.int .i64 y.1).wf = true ∧ (Lit.int .i64 y.2).wf = true)) ∧ (Lit.int .i64 x.2.2.2.2.2.1).wf = true ∧ (Lit.int .i64 x.2.2.2.2.2.2).wf = true))) :
    @CallsH Try.prog 4 #[s0] h ⟨fun u _ => u = .bool true⟩ := by
  obtain ⟨le, hr0, hlen0, hev0, hlt0⟩ := ev_row hs0
  (refine calls_of_codeR (rs := [.tmp 2]) Try.func4 rfl rfl (by simp) ?_)
  (refine CodeH.seq' (CodeH.of_vc [] hm (by kernel_rfl) ?_); simp (config := { dsimp := false, maxSteps := 10000000 }) (disch := omega) only [go_sem, reduceIte, Nat.reduceEqDiff, reduceCtorEq, Nat.reduceAdd, Nat.reduceMul, Int.reduceToNat, Int.reduceLE, Int.reduceLT, Int.reduceEq, Int.reduceNe, Nat.reduceLeDiff, Int.reducePow, Nat.reducePow, Nat.reduceLT, Nat.reduceSub, Nat.reduceMod, Nat.reduceDiv, slot_neg, slot_pos, T.ag_3, T.ag_39, T.ag_4, T.ag_41, T.eb_22, T.eb_33, T.eb_38, T.es_22, T.es_37, T.es_38, T.es_39, T.ez_22, T.ez_33, T.ez_38, T.fo_41_0, T.fo_41_2, T.fo_41_4, T.fo_41_5, T.fo_41_6, T.fo_42_0, T.fo_42_1, T.gf_10, T.gf_11, T.gf_13, T.gf_14, T.gf_15, T.gf_8, T.gf_9, T.ib_26, T.ib_27, T.ib_3, T.ii_22, T.ii_26, T.ii_3, T.ii_33, T.ii_37, T.ii_38, T.ii_39, T.ip_26, T.ip_27, T.ip_3, T.pl_32, T.s8_22, T.s8_26, T.s8_3, T.s8_33, T.s8_37, T.s8_38, T.s8_39, T.sl_22, T.sl_26, T.sl_3, T.sl_33, T.sl_37, T.sl_38, T.sl_39, T.st_22, T.st_26, T.st_3, T.st_33, T.st_37, T.st_38, T.st_39, T.un_22, T.un_26, T.un_3, T.un_33, T.un_37, T.un_38, T.un_39, T.zo_32, T.zo_41, init_a])
  (refine CodeH.seq' (CodeH.of_vc [] hm (by kernel_rfl) ?_); simp (config := { dsimp := false, maxSteps := 10000000 }) (disch := omega) only [go_sem, reduceIte, Nat.reduceEqDiff, reduceCtorEq, Nat.reduceAdd, Nat.reduceMul, Int.reduceToNat, Int.reduceLE, Int.reduceLT, Int.reduceEq, Int.reduceNe, Nat.reduceLeDiff, Int.reducePow, Nat.reducePow, Nat.reduceLT, Nat.reduceSub, Nat.reduceMod, Nat.reduceDiv, slot_neg, slot_pos, T.ag_3, T.ag_39, T.ag_4, T.ag_41, T.eb_22, T.eb_33, T.eb_38, T.es_22, T.es_37, T.es_38, T.es_39, T.ez_22, T.ez_33, T.ez_38, T.fo_41_0, T.fo_41_2, T.fo_41_4, T.fo_41_5, T.fo_41_6, T.fo_42_0, T.fo_42_1, T.gf_10, T.gf_11, T.gf_13, T.gf_14, T.gf_15, T.gf_8, T.gf_9, T.ib_26, T.ib_27, T.ib_3, T.ii_22, T.ii_26, T.ii_3, T.ii_33, T.ii_37, T.ii_38, T.ii_39, T.ip_26, T.ip_27, T.ip_3, T.pl_32, T.s8_22, T.s8_26, T.s8_3, T.s8_33, T.s8_37, T.s8_38, T.s8_39, T.sl_22, T.sl_26, T.sl_3, T.sl_33, T.sl_37, T.sl_38, T.sl_39, T.st_22, T.st_26, T.st_3, T.st_33, T.st_37, T.st_38, T.st_39, T.un_22, T.un_26, T.un_3, T.un_33, T.un_37, T.un_38, T.un_39, T.zo_32, T.zo_41, init_a])
  refine (travels_ph _).mono fun u H0 ⟨e0, hU0⟩ => ?_
  subst e0
  simp (config := { dsimp := false, maxSteps := 10000000 }) (disch := omega) only [go_sem, reduceIte, Nat.reduceEqDiff, reduceCtorEq, Nat.reduceAdd, Nat.reduceMul, Int.reduceToNat, Int.reduceLE, Int.reduceLT, Int.reduceEq, Int.reduceNe, Nat.reduceLeDiff, Int.reducePow, Nat.reducePow, Nat.reduceLT, Nat.reduceSub, Nat.reduceMod, Nat.reduceDiv, slot_neg, slot_pos, T.ag_3, T.ag_39, T.ag_4, T.ag_41, T.eb_22, T.eb_33, T.eb_38, T.es_22, T.es_37, T.es_38, T.es_39, T.ez_22, T.ez_33, T.ez_38, T.fo_41_0, T.fo_41_2, T.fo_41_4, T.fo_41_5, T.fo_41_6, T.fo_42_0, T.fo_42_1, T.gf_10, T.gf_11, T.gf_13, T.gf_14, T.gf_15, T.gf_8, T.gf_9, T.ib_26, T.ib_27, T.ib_3, T.ii_22, T.ii_26, T.ii_3, T.ii_33, T.ii_37, T.ii_38, T.ii_39, T.ip_26, T.ip_27, T.ip_3, T.pl_32, T.s8_22, T.s8_26, T.s8_3, T.s8_33, T.s8_37, T.s8_38, T.s8_39, T.sl_22, T.sl_26, T.sl_3, T.sl_33, T.sl_37, T.sl_38, T.sl_39, T.st_22, T.st_26, T.st_3, T.st_33, T.st_37, T.st_38, T.st_39, T.un_22, T.un_26, T.un_3, T.un_33, T.un_37, T.un_38, T.un_39, T.zo_32, T.zo_41]
  (refine CodeH.seq' (CodeH.of_vc [] hm (by kernel_rfl) ?_); simp (config := { dsimp := false, maxSteps := 10000000 }) (disch := omega) only [go_sem, reduceIte, Nat.reduceEqDiff, reduceCtorEq, Nat.reduceAdd, Nat.reduceMul, Int.reduceToNat, Int.reduceLE, Int.reduceLT, Int.reduceEq, Int.reduceNe, Nat.reduceLeDiff, Int.reducePow, Nat.reducePow, Nat.reduceLT, Nat.reduceSub, Nat.reduceMod, Nat.reduceDiv, slot_neg, slot_pos, T.ag_3, T.ag_39, T.ag_4, T.ag_41, T.eb_22, T.eb_33, T.eb_38, T.es_22, T.es_37, T.es_38, T.es_39, T.ez_22, T.ez_33, T.ez_38, T.fo_41_0, T.fo_41_2, T.fo_41_4, T.fo_41_5, T.fo_41_6, T.fo_42_0, T.fo_42_1, T.gf_10, T.gf_11, T.gf_13, T.gf_14, T.gf_15, T.gf_8, T.gf_9, T.ib_26, T.ib_27, T.ib_3, T.ii_22, T.ii_26, T.ii_3, T.ii_33, T.ii_37, T.ii_38, T.ii_39, T.ip_26, T.ip_27, T.ip_3, T.pl_32, T.s8_22, T.s8_26, T.s8_3, T.s8_33, T.s8_37, T.s8_38, T.s8_39, T.sl_22, T.sl_26, T.sl_3, T.sl_33, T.sl_37, T.sl_38, T.sl_39, T.st_22, T.st_26, T.st_3, T.st_33, T.st_37, T.st_38, T.st_39, T.un_22, T.un_26, T.un_3, T.un_33, T.un_37, T.un_38, T.un_39, T.zo_32, T.zo_41, init_a])
  refine (New_ph H0).mono fun u H1 ⟨e1, e2⟩ => ?_
  subst e1
  obtain ⟨A0, st0, e0⟩ := hr0.form
  simp (config := { dsimp := false, maxSteps := 10000000 }) (disch := omega) only [go_sem, reduceIte, Nat.reduceEqDiff, reduceCtorEq, Nat.reduceAdd, Nat.reduceMul, Int.reduceToNat, Int.reduceLE, Int.reduceLT, Int.reduceEq, Int.reduceNe, Nat.reduceLeDiff, Int.reducePow, Nat.reducePow, Nat.reduceLT, Nat.reduceSub, Nat.reduceMod, Nat.reduceDiv, slot_neg, slot_pos, T.ag_3, T.ag_39, T.ag_4, T.ag_41, T.eb_22, T.eb_33, T.eb_38, T.es_22, T.es_37, T.es_38, T.es_39, T.ez_22, T.ez_33, T.ez_38, T.fo_41_0, T.fo_41_2, T.fo_41_4, T.fo_41_5, T.fo_41_6, T.fo_42_0, T.fo_42_1, T.gf_10, T.gf_11, T.gf_13, T.gf_14, T.gf_15, T.gf_8, T.gf_9, T.ib_26, T.ib_27, T.ib_3, T.ii_22, T.ii_26, T.ii_3, T.ii_33, T.ii_37, T.ii_38, T.ii_39, T.ip_26, T.ip_27, T.ip_3, T.pl_32, T.s8_22, T.s8_26, T.s8_3, T.s8_33, T.s8_37, T.s8_38, T.s8_39, T.sl_22, T.sl_26, T.sl_3, T.sl_33, T.sl_37, T.sl_38, T.sl_39, T.st_22, T.st_26, T.st_3, T.st_33, T.st_37, T.st_38, T.st_39, T.un_22, T.un_26, T.un_3, T.un_33, T.un_37, T.un_38, T.un_39, T.zo_32, T.zo_41]
  (refine CodeH.seq' (CodeH.of_vc [] hm (by kernel_rfl) ?_); simp (config := { dsimp := false, maxSteps := 10000000 }) (disch := omega) only [go_sem, reduceIte, Nat.reduceEqDiff, reduceCtorEq, Nat.reduceAdd, Nat.reduceMul, Int.reduceToNat, Int.reduceLE, Int.reduceLT, Int.reduceEq, Int.reduceNe, Nat.reduceLeDiff, Int.reducePow, Nat.reducePow, Nat.reduceLT, Nat.reduceSub, Nat.reduceMod, Nat.reduceDiv, slot_neg, slot_pos, T.ag_3, T.ag_39, T.ag_4, T.ag_41, T.eb_22, T.eb_33, T.eb_38, T.es_22, T.es_37, T.es_38, T.es_39, T.ez_22, T.ez_33, T.ez_38, T.fo_41_0, T.fo_41_2, T.fo_41_4, T.fo_41_5, T.fo_41_6, T.fo_42_0, T.fo_42_1, T.gf_10, T.gf_11, T.gf_13, T.gf_14, T.gf_15, T.gf_8, T.gf_9, T.ib_26, T.ib_27, T.ib_3, T.ii_22, T.ii_26, T.ii_3, T.ii_33, T.ii_37, T.ii_38, T.ii_39, T.ip_26, T.ip_27, T.ip_3, T.pl_32, T.s8_22, T.s8_26, T.s8_3, T.s8_33, T.s8_37, T.s8_38, T.s8_39, T.sl_22, T.sl_26, T.sl_3, T.sl_33, T.sl_37, T.sl_38, T.sl_39, T.st_22, T.st_26, T.st_3, T.st_33, T.st_37, T.st_38, T.st_39, T.un_22, T.un_26, T.un_3, T.un_33, T.un_37, T.un_38, T.un_39, T.zo_32, T.zo_41, init_a])
  (refine CodeH.seq' (CodeH.of_vc [] hm (by kernel_rfl) ?_); simp (config := { dsimp := false, maxSteps := 10000000 }) (disch := omega) only [go_sem, reduceIte, Nat.reduceEqDiff, reduceCtorEq, Nat.reduceAdd, Nat.reduceMul, Int.reduceToNat, Int.reduceLE, Int.reduceLT, Int.reduceEq, Int.reduceNe, Nat.reduceLeDiff, Int.reducePow, Nat.reducePow, Nat.reduceLT, Nat.reduceSub, Nat.reduceMod, Nat.reduceDiv, slot_neg, slot_pos, T.ag_3, T.ag_39, T.ag_4, T.ag_41, T.eb_22, T.eb_33, T.eb_38, T.es_22, T.es_37, T.es_38, T.es_39, T.ez_22, T.ez_33, T.ez_38, T.fo_41_0, T.fo_41_2, T.fo_41_4, T.fo_41_5, T.fo_41_6, T.fo_42_0, T.fo_42_1, T.gf_10, T.gf_11, T.gf_13, T.gf_14, T.gf_15, T.gf_8, T.gf_9, T.ib_26, T.ib_27, T.ib_3, T.ii_22, T.ii_26, T.ii_3, T.ii_33, T.ii_37, T.ii_38, T.ii_39, T.ip_26, T.ip_27, T.ip_3, T.pl_32, T.s8_22, T.s8_26, T.s8_3, T.s8_33, T.s8_37, T.s8_38, T.s8_39, T.sl_22, T.sl_26, T.sl_3, T.sl_33, T.sl_37, T.sl_38, T.sl_39, T.st_22, T.st_26, T.st_3, T.st_33, T.st_37, T.st_38, T.st_39, T.un_22, T.un_26, T.un_3, T.un_33, T.un_37, T.un_38, T.un_39, T.zo_32, T.zo_41, init_a])
  (refine CodeH.seq' (CodeH.of_vc [] hm (by kernel_rfl) ?_); simp (config := { dsimp := false, maxSteps := 10000000 }) (disch := omega) only [go_sem, reduceIte, Nat.reduceEqDiff, reduceCtorEq, Nat.reduceAdd, Nat.reduceMul, Int.reduceToNat, Int.reduceLE, Int.reduceLT, Int.reduceEq, Int.reduceNe, Nat.reduceLeDiff, Int.reducePow, Nat.reducePow, Nat.reduceLT, Nat.reduceSub, Nat.reduceMod, Nat.reduceDiv, slot_neg, slot_pos, T.ag_3, T.ag_39, T.ag_4, T.ag_41, T.eb_22, T.eb_33, T.eb_38, T.es_22, T.es_37, T.es_38, T.es_39, T.ez_22, T.ez_33, T.ez_38, T.fo_41_0, T.fo_41_2, T.fo_41_4, T.fo_41_5, T.fo_41_6, T.fo_42_0, T.fo_42_1, T.gf_10, T.gf_11, T.gf_13, T.gf_14, T.gf_15, T.gf_8, T.gf_9, T.ib_26, T.ib_27, T.ib_3, T.ii_22, T.ii_26, T.ii_3, T.ii_33, T.ii_37, T.ii_38, T.ii_39, T.ip_26, T.ip_27, T.ip_3, T.pl_32, T.s8_22, T.s8_26, T.s8_3, T.s8_33, T.s8_37, T.s8_38, T.s8_39, T.sl_22, T.sl_26, T.sl_3, T.sl_33, T.sl_37, T.sl_38, T.sl_39, T.st_22, T.st_26, T.st_3, T.st_33, T.st_37, T.st_38, T.st_39, T.un_22, T.un_26, T.un_3, T.un_33, T.un_37, T.un_38, T.un_39, T.zo_32, T.zo_41, init_a])
  (refine CodeH.seq' (CodeH.of_vc [] hm (by kernel_rfl) ?_); simp (config := { dsimp := false, maxSteps := 10000000 }) (disch := omega) only [go_sem, reduceIte, Nat.reduceEqDiff, reduceCtorEq, Nat.reduceAdd, Nat.reduceMul, Int.reduceToNat, Int.reduceLE, Int.reduceLT, Int.reduceEq, Int.reduceNe, Nat.reduceLeDiff, Int.reducePow, Nat.reducePow, Nat.reduceLT, Nat.reduceSub, Nat.reduceMod, Nat.reduceDiv, slot_neg, slot_pos, T.ag_3, T.ag_39, T.ag_4, T.ag_41, T.eb_22, T.eb_33, T.eb_38, T.es_22, T.es_37, T.es_38, T.es_39, T.ez_22, T.ez_33, T.ez_38, T.fo_41_0, T.fo_41_2, T.fo_41_4, T.fo_41_5, T.fo_41_6, T.fo_42_0, T.fo_42_1, T.gf_10, T.gf_11, T.gf_13, T.gf_14, T.gf_15, T.gf_8, T.gf_9, T.ib_26, T.ib_27, T.ib_3, T.ii_22, T.ii_26, T.ii_3, T.ii_33, T.ii_37, T.ii_38, T.ii_39, T.ip_26, T.ip_27, T.ip_3, T.pl_32, T.s8_22, T.s8_26, T.s8_3, T.s8_33, T.s8_37, T.s8_38, T.s8_39, T.sl_22, T.sl_26, T.sl_3, T.sl_33, T.sl_37, T.sl_38, T.sl_39, T.st_22, T.st_26, T.st_3, T.st_33, T.st_37, T.st_38, T.st_39, T.un_22, T.un_26, T.un_3, T.un_33, T.un_37, T.un_38, T.un_39, T.zo_32, T.zo_41, init_a])
  refine loop_introC (fun r H => ∃ (i : Nat) (al : List Pk) (told : List Bool) (s : St) (now : Int) (p : Nat) (D D4 D5 : List Nat), i ≤ le.length ∧ i ≤ 80 ∧ al.length ≤ i ∧ OO H0 p (r 4) (r 5) al told s D D4 D5 H ∧ s.now ≤ now ∧ 0 ≤ now ∧ now ≤ 1099511627776 ∧
    r 0 = s0 ∧ r 3 = .pointer (some ⟨p, 0, none⟩) ∧ r 6 = .int .i64 now ∧ r 7 = .int .i64 i) (fun r _ => match r 7 with | .int _ i => 80 - i.toNat | _ => 0) ?_ ?_
  · have hS : StR H1 H0.next [] newS := ⟨by rw [e2]; exact Nat.lt_succ_self _, by simp, .slice none 0 0, by rw [e2, get_alloc, if_pos rfl]; rfl, OwnRow.nil _⟩
    refine ⟨0, [], [], newS, 0, H0.next, [], [], [], by omega, by omega, by simp, ⟨hS, ?_, ?_, OI.zero, ⟨Nat.le_refl _, by simp, by simp, by simp⟩, ⟨by simp, by simp⟩, by rw [e2]; exact Upd.alloc _ _ _⟩, by decide, by omega, by omega, by simp [upd, initR], by simp [upd], by simp [upd], by simp [upd]⟩
    · rw [show ∀ x y : Value, ∀ R : Regs, upd (upd (upd (upd R (some 4) (.slice none 0 0)) (some 5) (.slice none 0 0)) (some 6) x) (some 7) y 4 = .slice none 0 0 from fun _ _ _ => rfl]; exact OwnRow.nil _
    · rw [show ∀ x y : Value, ∀ R : Regs, upd (upd (upd (upd R (some 4) (.slice none 0 0)) (some 5) (.slice none 0 0)) (some 6) x) (some 7) y 5 = .slice none 0 0 from fun _ _ _ => rfl]; exact OwnRow.nil _
  · rintro n hok r H ⟨i, al, told, s, now, p, D, D4, D5, hi, hi80, hal, hO, hnow, hn0, hn1, q0, q3, q6, q7⟩
    have hrow : RowIn evE H s0 le := hr0.upd fun A n st e => by
      have h1 := hlt0 A n st e
      have h2 := hU0.1
      rw [hO.upd.2 _ (by omega) (by simp), hU0.2 _ h1 (by simp)]
    obtain ⟨A0, st0, e0⟩ := hrow.form
    by_cases hlt : i < le.length ∧ i < 80
    · have hlt' : ((i : Int) < (le.length : Int)) = True := eq_true (by omega)
      have h80 : ((i : Int) < 80) = True := eq_true (by omega)
      refine CodeH.seq' (CodeH.of_vc [] hm (okl hok) ?_)
      replace hok := okr hok
      simp (config := { dsimp := false, maxSteps := 10000000 }) (disch := omega) only [go_sem, reduceIte, Nat.reduceEqDiff, reduceCtorEq, Nat.reduceAdd, Nat.reduceMul, Int.reduceToNat, Int.reduceLE, Int.reduceLT, Int.reduceEq, Int.reduceNe, Nat.reduceLeDiff, Int.reducePow, Nat.reducePow, Nat.reduceLT, Nat.reduceSub, Nat.reduceMod, Nat.reduceDiv, slot_neg, slot_pos, T.ag_3, T.ag_39, T.ag_4, T.ag_41, T.eb_22, T.eb_33, T.eb_38, T.es_22, T.es_37, T.es_38, T.es_39, T.ez_22, T.ez_33, T.ez_38, T.fo_41_0, T.fo_41_2, T.fo_41_4, T.fo_41_5, T.fo_41_6, T.fo_42_0, T.fo_42_1, T.gf_10, T.gf_11, T.gf_13, T.gf_14, T.gf_15, T.gf_8, T.gf_9, T.ib_26, T.ib_27, T.ib_3, T.ii_22, T.ii_26, T.ii_3, T.ii_33, T.ii_37, T.ii_38, T.ii_39, T.ip_26, T.ip_27, T.ip_3, T.pl_32, T.s8_22, T.s8_26, T.s8_3, T.s8_33, T.s8_37, T.s8_38, T.s8_39, T.sl_22, T.sl_26, T.sl_3, T.sl_33, T.sl_37, T.sl_38, T.sl_39, T.st_22, T.st_26, T.st_3, T.st_33, T.st_37, T.st_38, T.st_39, T.un_22, T.un_26, T.un_3, T.un_33, T.un_37, T.un_38, T.un_39, T.zo_32, T.zo_41, q0, q7, e0, hlt', h80]
      have hx : le[i]? = some le[i] := List.getElem?_eq_getElem hlt.1
      rcases hrow with ⟨_, hnil⟩ | ⟨qe, offe, vse, oe, he', hqe, hRe⟩
      · rw [hnil] at hlt; simp at hlt
      have hxa := hRe.at hx
      have j1 : List.take 7 (List.drop (offe + i * 7) vse) = evE.enc le[i] := hxa.1
      have j2 : offe + i * 7 + 7 ≤ vse.length := hxa.2
      obtain ⟨ev, hev1, hev⟩ := hev0 i _ (List.getElem?_eq_getElem (by omega))
      rw [hx] at hev1
      cases hev1
      generalize le[i] = x at hx j1 hev
      have hen : evE.enc x = [.int .i64 x.what, .int .i64 x.n, .int .i64 x.size, .bool x.asks, .slice x.sa x.sn x.st, .int .i64 x.delay, .int .i64 x.wait] := rfl
      rw [hen] at j1
      have hK : evE.k = 7 := rfl
      have hN := hO.st.1
      refine CodeH.seq' (CodeH.block ?_)
      have hokb := okb (okl hok)
      replace hok := okr hok
      refine CodeH.seq' (CodeH.of_vc [] hm (okl hokb) ?_)
      replace hokb := okr hokb
      rw [he'] at q0
      simp (config := { dsimp := false, maxSteps := 10000000 }) (disch := omega) only [go_sem, reduceIte, Nat.reduceEqDiff, reduceCtorEq, Nat.reduceAdd, Nat.reduceMul, Int.reduceToNat, Int.reduceLE, Int.reduceLT, Int.reduceEq, Int.reduceNe, Nat.reduceLeDiff, Int.reducePow, Nat.reducePow, Nat.reduceLT, Nat.reduceSub, Nat.reduceMod, Nat.reduceDiv, slot_neg, slot_pos, T.ag_3, T.ag_39, T.ag_4, T.ag_41, T.eb_22, T.eb_33, T.eb_38, T.es_22, T.es_37, T.es_38, T.es_39, T.ez_22, T.ez_33, T.ez_38, T.fo_41_0, T.fo_41_2, T.fo_41_4, T.fo_41_5, T.fo_41_6, T.fo_42_0, T.fo_42_1, T.gf_10, T.gf_11, T.gf_13, T.gf_14, T.gf_15, T.gf_8, T.gf_9, T.ib_26, T.ib_27, T.ib_3, T.ii_22, T.ii_26, T.ii_3, T.ii_33, T.ii_37, T.ii_38, T.ii_39, T.ip_26, T.ip_27, T.ip_3, T.pl_32, T.s8_22, T.s8_26, T.s8_3, T.s8_33, T.s8_37, T.s8_38, T.s8_39, T.sl_22, T.sl_26, T.sl_3, T.sl_33, T.sl_37, T.sl_38, T.sl_39, T.st_22, T.st_26, T.st_3, T.st_33, T.st_37, T.st_38, T.st_39, T.un_22, T.un_26, T.un_3, T.un_33, T.un_37, T.un_38, T.un_39, T.zo_32, T.zo_41, q0, q7, hlt', hqe, j1, hK]
      refine ⟨j2, ?_⟩
      obtain ⟨Hv, hHv⟩ : ∃ Hv, (H.alloc (.cells [.int .i64 0, .int .i64 0, .int .i64 0, .bool false, .slice none 0 0, .int .i64 0, .int .i64 0] .own)).put H.next (.live (.cells [.int .i64 x.what, .int .i64 x.n, .int .i64 x.size, .bool x.asks, .slice x.sa x.sn x.st, .int .i64 x.delay, .int .i64 x.wait] .own)) = Hv := ⟨_, rfl⟩
      rw [hHv]
      have gv : Hv.get H.next = .live (.cells [.int .i64 x.what, .int .i64 x.n, .int .i64 x.size, .bool x.asks, .slice x.sa x.sn x.st, .int .i64 x.delay, .int .i64 x.wait] .own) := by rw [← hHv, get_put, if_pos rfl]
      have nv : Hv.next = H.next + 1 := by rw [← hHv]; rfl
      have uv : Upd H Hv [] := by rw [← hHv]; exact (Upd.alloc _ _ _).put (.inr (Nat.le_refl _))
      clear hHv
      obtain ⟨kw, hkw, ekw⟩ := modm x.wait 1000 (by omega)
      have w1 : IntKind.i64.wrap (now + (kw : Int)) = now + kw := i64wrap (by omega) (by omega)
      refine CodeH.seq' (CodeH.of_vc [] hm (okl hokb) ?_)
      replace hokb := okr hokb
      simp (config := { dsimp := false, maxSteps := 10000000 }) (disch := omega) only [go_sem, reduceIte, Nat.reduceEqDiff, reduceCtorEq, Nat.reduceAdd, Nat.reduceMul, Int.reduceToNat, Int.reduceLE, Int.reduceLT, Int.reduceEq, Int.reduceNe, Nat.reduceLeDiff, Int.reducePow, Nat.reducePow, Nat.reduceLT, Nat.reduceSub, Nat.reduceMod, Nat.reduceDiv, slot_neg, slot_pos, T.ag_3, T.ag_39, T.ag_4, T.ag_41, T.eb_22, T.eb_33, T.eb_38, T.es_22, T.es_37, T.es_38, T.es_39, T.ez_22, T.ez_33, T.ez_38, T.fo_41_0, T.fo_41_2, T.fo_41_4, T.fo_41_5, T.fo_41_6, T.fo_42_0, T.fo_42_1, T.gf_10, T.gf_11, T.gf_13, T.gf_14, T.gf_15, T.gf_8, T.gf_9, T.ib_26, T.ib_27, T.ib_3, T.ii_22, T.ii_26, T.ii_3, T.ii_33, T.ii_37, T.ii_38, T.ii_39, T.ip_26, T.ip_27, T.ip_3, T.pl_32, T.s8_22, T.s8_26, T.s8_3, T.s8_33, T.s8_37, T.s8_38, T.s8_39, T.sl_22, T.sl_26, T.sl_3, T.sl_33, T.sl_37, T.sl_38, T.sl_39, T.st_22, T.st_26, T.st_3, T.st_33, T.st_37, T.st_38, T.st_39, T.un_22, T.un_26, T.un_3, T.un_33, T.un_37, T.un_38, T.un_39, T.zo_32, T.zo_41, q6, gv, ekw, w1, minl]
      refine CodeH.seq' (CodeH.of_vc [] hm (okl hokb) ?_)
      replace hokb := okr hokb
      simp (config := { dsimp := false, maxSteps := 10000000 }) (disch := omega) only [go_sem, reduceIte, Nat.reduceEqDiff, reduceCtorEq, Nat.reduceAdd, Nat.reduceMul, Int.reduceToNat, Int.reduceLE, Int.reduceLT, Int.reduceEq, Int.reduceNe, Nat.reduceLeDiff, Int.reducePow, Nat.reducePow, Nat.reduceLT, Nat.reduceSub, Nat.reduceMod, Nat.reduceDiv, slot_neg, slot_pos, T.ag_3, T.ag_39, T.ag_4, T.ag_41, T.eb_22, T.eb_33, T.eb_38, T.es_22, T.es_37, T.es_38, T.es_39, T.ez_22, T.ez_33, T.ez_38, T.fo_41_0, T.fo_41_2, T.fo_41_4, T.fo_41_5, T.fo_41_6, T.fo_42_0, T.fo_42_1, T.gf_10, T.gf_11, T.gf_13, T.gf_14, T.gf_15, T.gf_8, T.gf_9, T.ib_26, T.ib_27, T.ib_3, T.ii_22, T.ii_26, T.ii_3, T.ii_33, T.ii_37, T.ii_38, T.ii_39, T.ip_26, T.ip_27, T.ip_3, T.pl_32, T.s8_22, T.s8_26, T.s8_3, T.s8_33, T.s8_37, T.s8_38, T.s8_39, T.sl_22, T.sl_26, T.sl_3, T.sl_33, T.sl_37, T.sl_38, T.sl_39, T.st_22, T.st_26, T.st_3, T.st_33, T.st_37, T.st_38, T.st_39, T.un_22, T.un_26, T.un_3, T.un_33, T.un_37, T.un_38, T.un_39, T.zo_32, T.zo_41]
      obtain ⟨now2, hnow2⟩ : ∃ now2 : Int, min (now + (kw : Int)) 1099511627776 = now2 := ⟨_, rfl⟩
      rw [hnow2]
      have hnw : now ≤ now2 ∧ now2 ≤ 1099511627776 := by omega
      clear hnow2 w1 ekw
      refine CodeH.gen (fun r' h => Hv = h ∧ r' 0 = s0 ∧ r' 3 = .pointer (some ⟨p, 0, none⟩) ∧ r' 4 = r 4 ∧ r' 5 = r 5 ∧ r' 6 = .int .i64 now2 ∧ r' 7 = .int .i64 i ∧ r' 8 = .pointer (some ⟨H.next, 0, none⟩) ∧ r' 9 = .slice none 0 0) ⟨rfl, by simp [upd, q0, he'], by simp [upd, q3], by simp [upd], by simp [upd], by simp [upd], by simp [upd, q7], by simp [upd], by simp [upd]⟩ fun r2 h2 ⟨hh, p0, p3, p4, p5, p6, p7, p8, p9⟩ => ?_
      subst hh
      have hOv : OO H0 p (r 4) (r 5) al told s D D4 D5 Hv := ⟨hO.st.upd uv (by simp) (by simp), hO.sizes.upd uv (by simp), hO.tolds.upd uv (by simp), hO.inv, hO.new, hO.apart, hO.upd.trans uv (by simp)⟩
      generalize r 4 = v4 at *
      generalize r 5 = v5 at *
      refine CodeH.seq (fun r' H' => r' 0 = s0 ∧ r' 3 = .pointer (some ⟨p, 0, none⟩) ∧ r' 6 = .int .i64 now2 ∧ r' 7 = .int .i64 i ∧ ∃ (al2 : List Pk) (told2 : List Bool) (s2 s3 : St) (l : List Int) (E E4 E5 : List Nat), al2.length ≤ i + 1 ∧ l.length ≤ 200000 ∧ s3.now ≤ now2 ∧ OP H0 p (r' 4) (r' 5) (r' 9) al2 told2 s2 s3 l E E4 E5 H') ?_ ?_
      · clear hok
        have hoks := okl hokb
        clear hokb
        refine CodeH.seq' (CodeH.of_vc [] hm (okl hoks) ?_)
        replace hoks := okb (okr hoks)
        simp (config := { dsimp := false, maxSteps := 10000000 }) (disch := omega) only [go_sem, reduceIte, Nat.reduceEqDiff, reduceCtorEq, Nat.reduceAdd, Nat.reduceMul, Int.reduceToNat, Int.reduceLE, Int.reduceLT, Int.reduceEq, Int.reduceNe, Nat.reduceLeDiff, Int.reducePow, Nat.reducePow, Nat.reduceLT, Nat.reduceSub, Nat.reduceMod, Nat.reduceDiv, slot_neg, slot_pos, T.ag_3, T.ag_39, T.ag_4, T.ag_41, T.eb_22, T.eb_33, T.eb_38, T.es_22, T.es_37, T.es_38, T.es_39, T.ez_22, T.ez_33, T.ez_38, T.fo_41_0, T.fo_41_2, T.fo_41_4, T.fo_41_5, T.fo_41_6, T.fo_42_0, T.fo_42_1, T.gf_10, T.gf_11, T.gf_13, T.gf_14, T.gf_15, T.gf_8, T.gf_9, T.ib_26, T.ib_27, T.ib_3, T.ii_22, T.ii_26, T.ii_3, T.ii_33, T.ii_37, T.ii_38, T.ii_39, T.ip_26, T.ip_27, T.ip_3, T.pl_32, T.s8_22, T.s8_26, T.s8_3, T.s8_33, T.s8_37, T.s8_38, T.s8_39, T.sl_22, T.sl_26, T.sl_3, T.sl_33, T.sl_37, T.sl_38, T.sl_39, T.st_22, T.st_26, T.st_3, T.st_33, T.st_37, T.st_38, T.st_39, T.un_22, T.un_26, T.un_3, T.un_33, T.un_37, T.un_38, T.un_39, T.zo_32, T.zo_41, p8, gv]
        refine CodeH.block ?_
        refine CodeH.seq' (CodeH.of_vc [] hm (okl hoks) ?_)
        replace hoks := okr hoks
        by_cases h2 : x.what = 2
        · have c1 : (x.what = 2) = True := eq_true h2
          simp (config := { dsimp := false, maxSteps := 10000000 }) (disch := omega) only [go_sem, reduceIte, Nat.reduceEqDiff, reduceCtorEq, Nat.reduceAdd, Nat.reduceMul, Int.reduceToNat, Int.reduceLE, Int.reduceLT, Int.reduceEq, Int.reduceNe, Nat.reduceLeDiff, Int.reducePow, Nat.reducePow, Nat.reduceLT, Nat.reduceSub, Nat.reduceMod, Nat.reduceDiv, slot_neg, slot_pos, T.ag_3, T.ag_39, T.ag_4, T.ag_41, T.eb_22, T.eb_33, T.eb_38, T.es_22, T.es_37, T.es_38, T.es_39, T.ez_22, T.ez_33, T.ez_38, T.fo_41_0, T.fo_41_2, T.fo_41_4, T.fo_41_5, T.fo_41_6, T.fo_42_0, T.fo_42_1, T.gf_10, T.gf_11, T.gf_13, T.gf_14, T.gf_15, T.gf_8, T.gf_9, T.ib_26, T.ib_27, T.ib_3, T.ii_22, T.ii_26, T.ii_3, T.ii_33, T.ii_37, T.ii_38, T.ii_39, T.ip_26, T.ip_27, T.ip_3, T.pl_32, T.s8_22, T.s8_26, T.s8_3, T.s8_33, T.s8_37, T.s8_38, T.s8_39, T.sl_22, T.sl_26, T.sl_3, T.sl_33, T.sl_37, T.sl_38, T.sl_39, T.st_22, T.st_26, T.st_3, T.st_33, T.st_37, T.st_38, T.st_39, T.un_22, T.un_26, T.un_3, T.un_33, T.un_37, T.un_38, T.un_39, T.zo_32, T.zo_41, c1]
          refine CodeH.condT (okc hoks).1 rfl ?_
          replace hoks := (okc hoks).2.1
          obtain ⟨sl, hsl, hslt⟩ : ∃ sl : List Sp, RowIn spE Hv (.slice x.sa x.sn x.st) sl ∧ ∀ A n st, Value.slice x.sa x.sn x.st = .slice (some A) n st → A.block < Hv.next := by
            obtain ⟨_, _, _, _, _, _, ⟨sl, g1, _⟩, g2⟩ := hev
            have h3 := hU0.1
            have h4 := hO.upd.1
            have h5 := uv.1
            refine ⟨sl, g1.upd fun A n st e => ?_, fun A n st e => by have := g2 A n st e; omega⟩
            have h1 := g2 A n st e
            rw [uv.2 _ (by omega) (by simp), hO.upd.2 _ (by omega) (by simp), hU0.2 _ h1 (by simp)]
          generalize Value.slice x.sa x.sn x.st = w at hsl hslt gv
          obtain ⟨As, sts, es⟩ := hsl.form
          obtain ⟨A4, st4, e4⟩ := hOv.sizes.row.form
          rw [List.length_map] at e4
          have hpv : p < Hv.next := hOv.st.1
          refine CodeH.seq' (CodeH.of_vc [] hm (okl hoks) ?_)
          replace hoks := okr hoks
          simp (config := { dsimp := false, maxSteps := 10000000 }) (disch := omega) only [go_sem, reduceIte, Nat.reduceEqDiff, reduceCtorEq, Nat.reduceAdd, Nat.reduceMul, Int.reduceToNat, Int.reduceLE, Int.reduceLT, Int.reduceEq, Int.reduceNe, Nat.reduceLeDiff, Int.reducePow, Nat.reducePow, Nat.reduceLT, Nat.reduceSub, Nat.reduceMod, Nat.reduceDiv, slot_neg, slot_pos, T.ag_3, T.ag_39, T.ag_4, T.ag_41, T.eb_22, T.eb_33, T.eb_38, T.es_22, T.es_37, T.es_38, T.es_39, T.ez_22, T.ez_33, T.ez_38, T.fo_41_0, T.fo_41_2, T.fo_41_4, T.fo_41_5, T.fo_41_6, T.fo_42_0, T.fo_42_1, T.gf_10, T.gf_11, T.gf_13, T.gf_14, T.gf_15, T.gf_8, T.gf_9, T.ib_26, T.ib_27, T.ib_3, T.ii_22, T.ii_26, T.ii_3, T.ii_33, T.ii_37, T.ii_38, T.ii_39, T.ip_26, T.ip_27, T.ip_3, T.pl_32, T.s8_22, T.s8_26, T.s8_3, T.s8_33, T.s8_37, T.s8_38, T.s8_39, T.sl_22, T.sl_26, T.sl_3, T.sl_33, T.sl_37, T.sl_38, T.sl_39, T.st_22, T.st_26, T.st_3, T.st_33, T.st_37, T.st_38, T.st_39, T.un_22, T.un_26, T.un_3, T.un_33, T.un_37, T.un_38, T.un_39, T.zo_32, T.zo_41]
          refine CodeH.seq (fun r' H' => Upd Hv H' [] ∧ r' 0 = s0 ∧ r' 3 = .pointer (some ⟨p, 0, none⟩) ∧ r' 4 = v4 ∧ r' 5 = v5 ∧ r' 6 = .int .i64 now2 ∧ r' 7 = .int .i64 i ∧ r' 8 = .pointer (some ⟨H.next, 0, none⟩) ∧ r' 9 = .slice none 0 0 ∧ ∃ (spl : List Sp) (D10 : List Nat), spl.length ≤ 20 ∧ (∀ y ∈ spl, 0 ≤ y.fr ∧ y.fr ≤ y.to ∧ y.to < (al.length : Int)) ∧ OwnRow spE H' (r' 10) D10 spl ∧ ∀ d ∈ D10, Hv.next ≤ d) (CodeH.of_vc [] hm (okl hoks) ?_) ?_
          · clear hoks
            simp (config := { dsimp := false, maxSteps := 10000000 }) (disch := omega) only [go_sem, reduceIte, Nat.reduceEqDiff, reduceCtorEq, Nat.reduceAdd, Nat.reduceMul, Int.reduceToNat, Int.reduceLE, Int.reduceLT, Int.reduceEq, Int.reduceNe, Nat.reduceLeDiff, Int.reducePow, Nat.reducePow, Nat.reduceLT, Nat.reduceSub, Nat.reduceMod, Nat.reduceDiv, slot_neg, slot_pos, T.ag_3, T.ag_39, T.ag_4, T.ag_41, T.eb_22, T.eb_33, T.eb_38, T.es_22, T.es_37, T.es_38, T.es_39, T.ez_22, T.ez_33, T.ez_38, T.fo_41_0, T.fo_41_2, T.fo_41_4, T.fo_41_5, T.fo_41_6, T.fo_42_0, T.fo_42_1, T.gf_10, T.gf_11, T.gf_13, T.gf_14, T.gf_15, T.gf_8, T.gf_9, T.ib_26, T.ib_27, T.ib_3, T.ii_22, T.ii_26, T.ii_3, T.ii_33, T.ii_37, T.ii_38, T.ii_39, T.ip_26, T.ip_27, T.ip_3, T.pl_32, T.s8_22, T.s8_26, T.s8_3, T.s8_33, T.s8_37, T.s8_38, T.s8_39, T.sl_22, T.sl_26, T.sl_3, T.sl_33, T.sl_37, T.sl_38, T.sl_39, T.st_22, T.st_26, T.st_3, T.st_33, T.st_37, T.st_38, T.st_39, T.un_22, T.un_26, T.un_3, T.un_33, T.un_37, T.un_38, T.un_39, T.zo_32, T.zo_41]
            refine loop_intro [] hm (fun r' H' => ∃ (spl : List Sp) (D10 : List Nat), Upd Hv H' [] ∧ r' 0 = s0 ∧ r' 3 = .pointer (some ⟨p, 0, none⟩) ∧ r' 4 = v4 ∧ r' 5 = v5 ∧ r' 6 = .int .i64 now2 ∧ r' 7 = .int .i64 i ∧ r' 8 = .pointer (some ⟨H.next, 0, none⟩) ∧ r' 9 = .slice none 0 0 ∧ r' 11 = .int .i64 (spl.length : Int) ∧ spl.length ≤ 20 ∧ (∀ y ∈ spl, 0 ≤ y.fr ∧ y.fr ≤ y.to ∧ y.to < (al.length : Int)) ∧ OwnRow spE H' (r' 10) D10 spl ∧ ∀ d ∈ D10, Hv.next ≤ d) (fun r' _ => match r' 11 with | .int _ k => 20 - k.toNat | _ => 0) ?_ ?_
            · exact ⟨[], [], Upd.refl _ _, by simp [upd, p0], by simp [upd, p3], by simp [upd, p4], by simp [upd, p5], by simp [upd, p6], by simp [upd, p7], by simp [upd, p8], by simp [upd, p9], by simp [upd], by simp, by simp, OwnRow.nil _, by simp⟩
            · rintro r3 H3 ⟨spl, D10, hU3, z0, z3, z4, z5, z6, z7, z8, z9, z11, hk20, hbd, hO3, hD10⟩
              have gv3 := (hU3.2 H.next (by omega) (by simp)).trans gv
              rw [e4] at z4
              generalize z10 : r3 10 = v10 at *
              by_cases c : spl.length < sl.length ∧ spl.length < 20 ∧ 0 < al.length
              · rcases id hsl with ⟨_, hn⟩ | ⟨qs, offs, vss, os, e, hqs, hRs⟩
                · rw [hn] at c; simp at c
                · rw [e] at gv3
                  have hql := hslt _ _ _ e
                  have hq3 := (hU3.2 qs hql (by simp)).trans hqs
                  have hxs : sl[spl.length]? = some sl[spl.length] := List.getElem?_eq_getElem c.1
                  generalize sl[spl.length] = y at hxs
                  have y1 : vss[offs + spl.length * 2]? = some (.int .i64 y.fr) := hRs.cell hxs (j := 0) (by decide)
                  have y2 : vss[offs + spl.length * 2 + 1]? = some (.int .i64 y.to) := hRs.cell hxs (j := 1) (by decide)
                  obtain ⟨a, ha, ea⟩ := modm y.fr al.length (by omega)
                  obtain ⟨b, hb, eb⟩ := modm y.to al.length (by omega)
                  have wl : IntKind.u64.wrap (al.length : Int) = al.length := u64wrap (by omega) (by omega)
                  have n0 : ((al.length : Int) = 0) = False := eq_false (by omega)
                  have n1 : ((al.length : Int) ≠ 0) = True := eq_true (by omega)
                  have c1 : ((spl.length : Int) < (sl.length : Int)) = True := eq_true (by omega)
                  have c2 : ((spl.length : Int) < 20) = True := eq_true (by omega)
                  have c3 : (0 < (al.length : Int)) = True := eq_true (by omega)
                  have hK : spE.k = 2 := rfl
                  simp (config := { dsimp := false, maxSteps := 10000000 }) (disch := omega) only [go_sem, reduceIte, Nat.reduceEqDiff, reduceCtorEq, Nat.reduceAdd, Nat.reduceMul, Int.reduceToNat, Int.reduceLE, Int.reduceLT, Int.reduceEq, Int.reduceNe, Nat.reduceLeDiff, Int.reducePow, Nat.reducePow, Nat.reduceLT, Nat.reduceSub, Nat.reduceMod, Nat.reduceDiv, slot_neg, slot_pos, T.ag_3, T.ag_39, T.ag_4, T.ag_41, T.eb_22, T.eb_33, T.eb_38, T.es_22, T.es_37, T.es_38, T.es_39, T.ez_22, T.ez_33, T.ez_38, T.fo_41_0, T.fo_41_2, T.fo_41_4, T.fo_41_5, T.fo_41_6, T.fo_42_0, T.fo_42_1, T.gf_10, T.gf_11, T.gf_13, T.gf_14, T.gf_15, T.gf_8, T.gf_9, T.ib_26, T.ib_27, T.ib_3, T.ii_22, T.ii_26, T.ii_3, T.ii_33, T.ii_37, T.ii_38, T.ii_39, T.ip_26, T.ip_27, T.ip_3, T.pl_32, T.s8_22, T.s8_26, T.s8_3, T.s8_33, T.s8_37, T.s8_38, T.s8_39, T.sl_22, T.sl_26, T.sl_3, T.sl_33, T.sl_37, T.sl_38, T.sl_39, T.st_22, T.st_26, T.st_3, T.st_33, T.st_37, T.st_38, T.st_39, T.un_22, T.un_26, T.un_3, T.un_33, T.un_37, T.un_38, T.un_39, T.zo_32, T.zo_41, z0, z3, z4, z5, z6, z7, z8, z9, z10, z11, gv3, hq3, y1, y2, ea, eb, wl, n0, n1, c1, c2, c3, hK, minl, maxl]
                  have hg3 : ∀ (b : Blk) d, d < H3.next → (H3.alloc b).get d = H3.get d := fun b d hd => by rw [get_alloc, if_neg (by omega)]
                  refine app_own (E := spE) (ns := [⟨min a b, max a b⟩]) (hO3.keep (Nat.le_succ _) fun d hd => hg3 _ d (hO3.lt d hd)) rfl rfl rfl (by simp; omega) fun u H4 D' hO4 hU4 hD4 => ?_
                  have w1 : IntKind.i64.wrap ((spl.length : Int) + 1) = ((spl.length + 1 : Nat) : Int) := by rw [i64wrap] <;> omega
                  simp (config := { dsimp := false, maxSteps := 10000000 }) (disch := omega) only [go_sem, reduceIte, Nat.reduceEqDiff, reduceCtorEq, Nat.reduceAdd, Nat.reduceMul, Int.reduceToNat, Int.reduceLE, Int.reduceLT, Int.reduceEq, Int.reduceNe, Nat.reduceLeDiff, Int.reducePow, Nat.reducePow, Nat.reduceLT, Nat.reduceSub, Nat.reduceMod, Nat.reduceDiv, slot_neg, slot_pos, T.ag_3, T.ag_39, T.ag_4, T.ag_41, T.eb_22, T.eb_33, T.eb_38, T.es_22, T.es_37, T.es_38, T.es_39, T.ez_22, T.ez_33, T.ez_38, T.fo_41_0, T.fo_41_2, T.fo_41_4, T.fo_41_5, T.fo_41_6, T.fo_42_0, T.fo_42_1, T.gf_10, T.gf_11, T.gf_13, T.gf_14, T.gf_15, T.gf_8, T.gf_9, T.ib_26, T.ib_27, T.ib_3, T.ii_22, T.ii_26, T.ii_3, T.ii_33, T.ii_37, T.ii_38, T.ii_39, T.ip_26, T.ip_27, T.ip_3, T.pl_32, T.s8_22, T.s8_26, T.s8_3, T.s8_33, T.s8_37, T.s8_38, T.s8_39, T.sl_22, T.sl_26, T.sl_3, T.sl_33, T.sl_37, T.sl_38, T.sl_39, T.st_22, T.st_26, T.st_3, T.st_33, T.st_37, T.st_38, T.st_39, T.un_22, T.un_26, T.un_3, T.un_33, T.un_37, T.un_38, T.un_39, T.zo_32, T.zo_41, z0, z3, z4, z5, z6, z7, z8, z9, z11, w1, e4]
                  refine ⟨⟨spl ++ [⟨min a b, max a b⟩], D', hU3.allocs.trans hU4 fun d hd => .inr (hD10 d hd), by simp, by simp; omega, fun z hz => ?_, hO4, fun d hd => ?_⟩, by omega⟩
                  · rcases List.mem_append.1 hz with h9 | h9
                    · exact hbd z h9
                    · rw [List.mem_singleton.1 h9]; simp only; omega
                  · have := hU3.1
                    rcases hD4 d hd with h9 | h9
                    · exact hD10 d h9
                    · have h8 : H3.next + 1 ≤ d := h9
                      omega
              · rw [es] at gv3
                have fin : ∃ (spl : List Sp) (D10 : List Nat), spl.length ≤ 20 ∧ (∀ y ∈ spl, 0 ≤ y.fr ∧ y.fr ≤ y.to ∧ y.to < (al.length : Int)) ∧ OwnRow spE H3 v10 D10 spl ∧ ∀ d ∈ D10, Hv.next ≤ d := ⟨spl, D10, hk20, hbd, hO3, hD10⟩
                by_cases c1 : spl.length < sl.length
                · have c1' : ((spl.length : Int) < (sl.length : Int)) = True := eq_true (by omega)
                  by_cases c2 : spl.length < 20
                  · have c2' : ((spl.length : Int) < 20) = True := eq_true (by omega)
                    have c3' : (0 < (al.length : Int)) = False := eq_false (by omega)
                    simp (config := { dsimp := false, maxSteps := 10000000 }) (disch := omega) only [go_sem, reduceIte, Nat.reduceEqDiff, reduceCtorEq, Nat.reduceAdd, Nat.reduceMul, Int.reduceToNat, Int.reduceLE, Int.reduceLT, Int.reduceEq, Int.reduceNe, Nat.reduceLeDiff, Int.reducePow, Nat.reducePow, Nat.reduceLT, Nat.reduceSub, Nat.reduceMod, Nat.reduceDiv, slot_neg, slot_pos, T.ag_3, T.ag_39, T.ag_4, T.ag_41, T.eb_22, T.eb_33, T.eb_38, T.es_22, T.es_37, T.es_38, T.es_39, T.ez_22, T.ez_33, T.ez_38, T.fo_41_0, T.fo_41_2, T.fo_41_4, T.fo_41_5, T.fo_41_6, T.fo_42_0, T.fo_42_1, T.gf_10, T.gf_11, T.gf_13, T.gf_14, T.gf_15, T.gf_8, T.gf_9, T.ib_26, T.ib_27, T.ib_3, T.ii_22, T.ii_26, T.ii_3, T.ii_33, T.ii_37, T.ii_38, T.ii_39, T.ip_26, T.ip_27, T.ip_3, T.pl_32, T.s8_22, T.s8_26, T.s8_3, T.s8_33, T.s8_37, T.s8_38, T.s8_39, T.sl_22, T.sl_26, T.sl_3, T.sl_33, T.sl_37, T.sl_38, T.sl_39, T.st_22, T.st_26, T.st_3, T.st_33, T.st_37, T.st_38, T.st_39, T.un_22, T.un_26, T.un_3, T.un_33, T.un_37, T.un_38, T.un_39, T.zo_32, T.zo_41, z0, z3, z4, z5, z6, z7, z8, z9, z10, z11, gv3, c1', c2', c3', e4]
                    exact ⟨hU3, fin⟩
                  · have c2' : ((spl.length : Int) < 20) = False := eq_false (by omega)
                    simp (config := { dsimp := false, maxSteps := 10000000 }) (disch := omega) only [go_sem, reduceIte, Nat.reduceEqDiff, reduceCtorEq, Nat.reduceAdd, Nat.reduceMul, Int.reduceToNat, Int.reduceLE, Int.reduceLT, Int.reduceEq, Int.reduceNe, Nat.reduceLeDiff, Int.reducePow, Nat.reducePow, Nat.reduceLT, Nat.reduceSub, Nat.reduceMod, Nat.reduceDiv, slot_neg, slot_pos, T.ag_3, T.ag_39, T.ag_4, T.ag_41, T.eb_22, T.eb_33, T.eb_38, T.es_22, T.es_37, T.es_38, T.es_39, T.ez_22, T.ez_33, T.ez_38, T.fo_41_0, T.fo_41_2, T.fo_41_4, T.fo_41_5, T.fo_41_6, T.fo_42_0, T.fo_42_1, T.gf_10, T.gf_11, T.gf_13, T.gf_14, T.gf_15, T.gf_8, T.gf_9, T.ib_26, T.ib_27, T.ib_3, T.ii_22, T.ii_26, T.ii_3, T.ii_33, T.ii_37, T.ii_38, T.ii_39, T.ip_26, T.ip_27, T.ip_3, T.pl_32, T.s8_22, T.s8_26, T.s8_3, T.s8_33, T.s8_37, T.s8_38, T.s8_39, T.sl_22, T.sl_26, T.sl_3, T.sl_33, T.sl_37, T.sl_38, T.sl_39, T.st_22, T.st_26, T.st_3, T.st_33, T.st_37, T.st_38, T.st_39, T.un_22, T.un_26, T.un_3, T.un_33, T.un_37, T.un_38, T.un_39, T.zo_32, T.zo_41, z0, z3, z4, z5, z6, z7, z8, z9, z10, z11, gv3, c1', c2', e4]
                    exact ⟨hU3, fin⟩
                · have c1' : ((spl.length : Int) < (sl.length : Int)) = False := eq_false (by omega)
                  simp (config := { dsimp := false, maxSteps := 10000000 }) (disch := omega) only [go_sem, reduceIte, Nat.reduceEqDiff, reduceCtorEq, Nat.reduceAdd, Nat.reduceMul, Int.reduceToNat, Int.reduceLE, Int.reduceLT, Int.reduceEq, Int.reduceNe, Nat.reduceLeDiff, Int.reducePow, Nat.reducePow, Nat.reduceLT, Nat.reduceSub, Nat.reduceMod, Nat.reduceDiv, slot_neg, slot_pos, T.ag_3, T.ag_39, T.ag_4, T.ag_41, T.eb_22, T.eb_33, T.eb_38, T.es_22, T.es_37, T.es_38, T.es_39, T.ez_22, T.ez_33, T.ez_38, T.fo_41_0, T.fo_41_2, T.fo_41_4, T.fo_41_5, T.fo_41_6, T.fo_42_0, T.fo_42_1, T.gf_10, T.gf_11, T.gf_13, T.gf_14, T.gf_15, T.gf_8, T.gf_9, T.ib_26, T.ib_27, T.ib_3, T.ii_22, T.ii_26, T.ii_3, T.ii_33, T.ii_37, T.ii_38, T.ii_39, T.ip_26, T.ip_27, T.ip_3, T.pl_32, T.s8_22, T.s8_26, T.s8_3, T.s8_33, T.s8_37, T.s8_38, T.s8_39, T.sl_22, T.sl_26, T.sl_3, T.sl_33, T.sl_37, T.sl_38, T.sl_39, T.st_22, T.st_26, T.st_3, T.st_33, T.st_37, T.st_38, T.st_39, T.un_22, T.un_26, T.un_3, T.un_33, T.un_37, T.un_38, T.un_39, T.zo_32, T.zo_41, z0, z3, z4, z5, z6, z7, z8, z9, z10, z11, gv3, c1', e4]
                  exact ⟨hU3, fin⟩
          · rintro r3 H3 ⟨hU3, z0, z3, z4, z5, z6, z7, z8, z9, spl, D10, hk20, hbd, hO3, hD10⟩
            generalize z10 : r3 10 = v10 at *
            have gv3 := (hU3.2 H.next (by omega) (by simp)).trans gv
            obtain ⟨kd, hkd, ekd⟩ := modm x.delay 100 (by omega)
            replace hoks := okr hoks
            refine CodeH.seq' (CodeH.of_vc [] hm (okl hoks) ?_)
            replace hoks := okr hoks
            simp (config := { dsimp := false, maxSteps := 10000000 }) (disch := omega) only [go_sem, reduceIte, Nat.reduceEqDiff, reduceCtorEq, Nat.reduceAdd, Nat.reduceMul, Int.reduceToNat, Int.reduceLE, Int.reduceLT, Int.reduceEq, Int.reduceNe, Nat.reduceLeDiff, Int.reducePow, Nat.reducePow, Nat.reduceLT, Nat.reduceSub, Nat.reduceMod, Nat.reduceDiv, slot_neg, slot_pos, T.ag_3, T.ag_39, T.ag_4, T.ag_41, T.eb_22, T.eb_33, T.eb_38, T.es_22, T.es_37, T.es_38, T.es_39, T.ez_22, T.ez_33, T.ez_38, T.fo_41_0, T.fo_41_2, T.fo_41_4, T.fo_41_5, T.fo_41_6, T.fo_42_0, T.fo_42_1, T.gf_10, T.gf_11, T.gf_13, T.gf_14, T.gf_15, T.gf_8, T.gf_9, T.ib_26, T.ib_27, T.ib_3, T.ii_22, T.ii_26, T.ii_3, T.ii_33, T.ii_37, T.ii_38, T.ii_39, T.ip_26, T.ip_27, T.ip_3, T.pl_32, T.s8_22, T.s8_26, T.s8_3, T.s8_33, T.s8_37, T.s8_38, T.s8_39, T.sl_22, T.sl_26, T.sl_3, T.sl_33, T.sl_37, T.sl_38, T.sl_39, T.st_22, T.st_26, T.st_3, T.st_33, T.st_37, T.st_38, T.st_39, T.un_22, T.un_26, T.un_3, T.un_33, T.un_37, T.un_38, T.un_39, T.zo_32, T.zo_41, z3, z6, z8, z10, gv3, ekd]
            have hlD := hOv.st.lt
            have hOs := hOv.st.upd hU3 (by simp) (by simp)
            refine (Acked_ph H3 p D s v10 spl kd now2 hOs hOv.inv.ok hO3.row (fun A n st e => ?_) (by omega)).mono fun u H4 ⟨v1, D1, v2, D2, f1, f2, f3, f4, f5, ⟨D3, f6, f7, f8, f9⟩, f10⟩ => ?_
            · rcases hO3 with ⟨e2, _⟩ | ⟨q, off, vs, eD, hq, e2, _⟩
              · rw [e2] at e; cases e
              · rw [e2] at e; cases e
                have h9 := hD10 q (by rw [eD]; simp)
                exact ⟨hq, by simp only; omega, fun hd => by have := hlD _ hd; simp only at this; omega⟩
            · have hto : timeOk s now2 = true := decide_eq_true ⟨by omega, hnw.2⟩
              have htop := hOv.inv.top
              have hchk : checkS s spl = 0 := by
                unfold checkS
                rw [if_neg, if_neg]
                · rw [List.any_eq_true]; rintro ⟨y, hy, hb⟩
                  have := hbd y hy
                  simp only [farSp, decide_eq_true_eq] at hb; omega
                · rw [List.any_eq_true]; rintro ⟨y, hy, hb⟩
                  have := hbd y hy
                  simp only [badSp, decide_eq_true_eq] at hb; omega
              have hae : (ackS s spl kd now2).2.2.2 = 0 := by
                unfold ackS
                rw [if_pos ⟨hto, by omega, by omega⟩, if_pos hchk]
              rw [hae] at f1
              subst f1
              have hal2 := ack_len s spl kd now2 (by omega)
              have htl := acked_tells s spl kd now2 hOv.inv.nodup
              have hok2 := hOv.inv.ok.ackS spl kd now2
              have hwl := hOv.inv.ok.len
              generalize ackS s spl kd now2 = R at *
              simp (config := { dsimp := false, maxSteps := 10000000 }) (disch := omega) only [go_sem, reduceIte, Nat.reduceEqDiff, reduceCtorEq, Nat.reduceAdd, Nat.reduceMul, Int.reduceToNat, Int.reduceLE, Int.reduceLT, Int.reduceEq, Int.reduceNe, Nat.reduceLeDiff, Int.reducePow, Nat.reducePow, Nat.reduceLT, Nat.reduceSub, Nat.reduceMod, Nat.reduceDiv, slot_neg, slot_pos, T.ag_3, T.ag_39, T.ag_4, T.ag_41, T.eb_22, T.eb_33, T.eb_38, T.es_22, T.es_37, T.es_38, T.es_39, T.ez_22, T.ez_33, T.ez_38, T.fo_41_0, T.fo_41_2, T.fo_41_4, T.fo_41_5, T.fo_41_6, T.fo_42_0, T.fo_42_1, T.gf_10, T.gf_11, T.gf_13, T.gf_14, T.gf_15, T.gf_8, T.gf_9, T.ib_26, T.ib_27, T.ib_3, T.ii_22, T.ii_26, T.ii_3, T.ii_33, T.ii_37, T.ii_38, T.ii_39, T.ip_26, T.ip_27, T.ip_3, T.pl_32, T.s8_22, T.s8_26, T.s8_3, T.s8_33, T.s8_37, T.s8_38, T.s8_39, T.sl_22, T.sl_26, T.sl_3, T.sl_33, T.sl_37, T.sl_38, T.sl_39, T.st_22, T.st_26, T.st_3, T.st_33, T.st_37, T.st_38, T.st_39, T.un_22, T.un_26, T.un_3, T.un_33, T.un_37, T.un_38, T.un_39, T.zo_32, T.zo_41]
              refine CodeH.seq' (CodeH.of_vc [] hm (okl hoks) ?_)
              replace hoks := okr hoks
              simp (config := { dsimp := false, maxSteps := 10000000 }) (disch := omega) only [go_sem, reduceIte, Nat.reduceEqDiff, reduceCtorEq, Nat.reduceAdd, Nat.reduceMul, Int.reduceToNat, Int.reduceLE, Int.reduceLT, Int.reduceEq, Int.reduceNe, Nat.reduceLeDiff, Int.reducePow, Nat.reducePow, Nat.reduceLT, Nat.reduceSub, Nat.reduceMod, Nat.reduceDiv, slot_neg, slot_pos, T.ag_3, T.ag_39, T.ag_4, T.ag_41, T.eb_22, T.eb_33, T.eb_38, T.es_22, T.es_37, T.es_38, T.es_39, T.ez_22, T.ez_33, T.ez_38, T.fo_41_0, T.fo_41_2, T.fo_41_4, T.fo_41_5, T.fo_41_6, T.fo_42_0, T.fo_42_1, T.gf_10, T.gf_11, T.gf_13, T.gf_14, T.gf_15, T.gf_8, T.gf_9, T.ib_26, T.ib_27, T.ib_3, T.ii_22, T.ii_26, T.ii_3, T.ii_33, T.ii_37, T.ii_38, T.ii_39, T.ip_26, T.ip_27, T.ip_3, T.pl_32, T.s8_22, T.s8_26, T.s8_3, T.s8_33, T.s8_37, T.s8_38, T.s8_39, T.sl_22, T.sl_26, T.sl_3, T.sl_33, T.sl_37, T.sl_38, T.sl_39, T.st_22, T.st_26, T.st_3, T.st_33, T.st_37, T.st_38, T.st_39, T.un_22, T.un_26, T.un_3, T.un_33, T.un_37, T.un_38, T.un_39, T.zo_32, T.zo_41]
              refine CodeH.of_vc [] hm hoks ?_
              obtain ⟨v9, e9⟩ : ∃ v9 : Value, v9 = .slice none 0 0 := ⟨_, rfl⟩
              rw [← e9] at z9
              simp (config := { dsimp := false, maxSteps := 10000000 }) (disch := omega) only [go_sem, reduceIte, Nat.reduceEqDiff, reduceCtorEq, Nat.reduceAdd, Nat.reduceMul, Int.reduceToNat, Int.reduceLE, Int.reduceLT, Int.reduceEq, Int.reduceNe, Nat.reduceLeDiff, Int.reducePow, Nat.reducePow, Nat.reduceLT, Nat.reduceSub, Nat.reduceMod, Nat.reduceDiv, slot_neg, slot_pos, T.ag_3, T.ag_39, T.ag_4, T.ag_41, T.eb_22, T.eb_33, T.eb_38, T.es_22, T.es_37, T.es_38, T.es_39, T.ez_22, T.ez_33, T.ez_38, T.fo_41_0, T.fo_41_2, T.fo_41_4, T.fo_41_5, T.fo_41_6, T.fo_42_0, T.fo_42_1, T.gf_10, T.gf_11, T.gf_13, T.gf_14, T.gf_15, T.gf_8, T.gf_9, T.ib_26, T.ib_27, T.ib_3, T.ii_22, T.ii_26, T.ii_3, T.ii_33, T.ii_37, T.ii_38, T.ii_39, T.ip_26, T.ip_27, T.ip_3, T.pl_32, T.s8_22, T.s8_26, T.s8_3, T.s8_33, T.s8_37, T.s8_38, T.s8_39, T.sl_22, T.sl_26, T.sl_3, T.sl_33, T.sl_37, T.sl_38, T.sl_39, T.st_22, T.st_26, T.st_3, T.st_33, T.st_37, T.st_38, T.st_39, T.un_22, T.un_26, T.un_3, T.un_33, T.un_37, T.un_38, T.un_39, T.zo_32, T.zo_41, z0, z3, z4, z5, z6, z7, z8, z9]
              refine news_row (l := R.2.1) (by kernel_rfl) f2.row rfl ?_
              simp (config := { dsimp := false, maxSteps := 10000000 }) (disch := omega) only [go_sem, reduceIte, Nat.reduceEqDiff, reduceCtorEq, Nat.reduceAdd, Nat.reduceMul, Int.reduceToNat, Int.reduceLE, Int.reduceLT, Int.reduceEq, Int.reduceNe, Nat.reduceLeDiff, Int.reducePow, Nat.reducePow, Nat.reduceLT, Nat.reduceSub, Nat.reduceMod, Nat.reduceDiv, slot_neg, slot_pos, T.ag_3, T.ag_39, T.ag_4, T.ag_41, T.eb_22, T.eb_33, T.eb_38, T.es_22, T.es_37, T.es_38, T.es_39, T.ez_22, T.ez_33, T.ez_38, T.fo_41_0, T.fo_41_2, T.fo_41_4, T.fo_41_5, T.fo_41_6, T.fo_42_0, T.fo_42_1, T.gf_10, T.gf_11, T.gf_13, T.gf_14, T.gf_15, T.gf_8, T.gf_9, T.ib_26, T.ib_27, T.ib_3, T.ii_22, T.ii_26, T.ii_3, T.ii_33, T.ii_37, T.ii_38, T.ii_39, T.ip_26, T.ip_27, T.ip_3, T.pl_32, T.s8_22, T.s8_26, T.s8_3, T.s8_33, T.s8_37, T.s8_38, T.s8_39, T.sl_22, T.sl_26, T.sl_3, T.sl_33, T.sl_37, T.sl_38, T.sl_39, T.st_22, T.st_26, T.st_3, T.st_33, T.st_37, T.st_38, T.st_39, T.un_22, T.un_26, T.un_3, T.un_33, T.un_37, T.un_38, T.un_39, T.zo_32, T.zo_41]
              have ho9 : OwnRow intE H4 v9 [] [] := by rw [e9]; exact OwnRow.nil _
              refine ⟨flat_one _, app_own (E := intE) (ns := R.2.1) ho9 rfl rfl rfl (by simp; omega) fun u5 H5 E5 hO5 hU5 hE5 => ?_⟩
              simp (config := { dsimp := false, maxSteps := 10000000 }) (disch := omega) only [go_sem, reduceIte, Nat.reduceEqDiff, reduceCtorEq, Nat.reduceAdd, Nat.reduceMul, Int.reduceToNat, Int.reduceLE, Int.reduceLT, Int.reduceEq, Int.reduceNe, Nat.reduceLeDiff, Int.reducePow, Nat.reducePow, Nat.reduceLT, Nat.reduceSub, Nat.reduceMod, Nat.reduceDiv, slot_neg, slot_pos, T.ag_3, T.ag_39, T.ag_4, T.ag_41, T.eb_22, T.eb_33, T.eb_38, T.es_22, T.es_37, T.es_38, T.es_39, T.ez_22, T.ez_33, T.ez_38, T.fo_41_0, T.fo_41_2, T.fo_41_4, T.fo_41_5, T.fo_41_6, T.fo_42_0, T.fo_42_1, T.gf_10, T.gf_11, T.gf_13, T.gf_14, T.gf_15, T.gf_8, T.gf_9, T.ib_26, T.ib_27, T.ib_3, T.ii_22, T.ii_26, T.ii_3, T.ii_33, T.ii_37, T.ii_38, T.ii_39, T.ip_26, T.ip_27, T.ip_3, T.pl_32, T.s8_22, T.s8_26, T.s8_3, T.s8_33, T.s8_37, T.s8_38, T.s8_39, T.sl_22, T.sl_26, T.sl_3, T.sl_33, T.sl_37, T.sl_38, T.sl_39, T.st_22, T.st_26, T.st_3, T.st_33, T.st_37, T.st_38, T.st_39, T.un_22, T.un_26, T.un_3, T.un_33, T.un_37, T.un_38, T.un_39, T.zo_32, T.zo_41]
              refine news_row (l := R.2.2.1) (by kernel_rfl) (f4.upd hU5 (by simp)).row rfl ?_
              simp (config := { dsimp := false, maxSteps := 10000000 }) (disch := omega) only [go_sem, reduceIte, Nat.reduceEqDiff, reduceCtorEq, Nat.reduceAdd, Nat.reduceMul, Int.reduceToNat, Int.reduceLE, Int.reduceLT, Int.reduceEq, Int.reduceNe, Nat.reduceLeDiff, Int.reducePow, Nat.reducePow, Nat.reduceLT, Nat.reduceSub, Nat.reduceMod, Nat.reduceDiv, slot_neg, slot_pos, T.ag_3, T.ag_39, T.ag_4, T.ag_41, T.eb_22, T.eb_33, T.eb_38, T.es_22, T.es_37, T.es_38, T.es_39, T.ez_22, T.ez_33, T.ez_38, T.fo_41_0, T.fo_41_2, T.fo_41_4, T.fo_41_5, T.fo_41_6, T.fo_42_0, T.fo_42_1, T.gf_10, T.gf_11, T.gf_13, T.gf_14, T.gf_15, T.gf_8, T.gf_9, T.ib_26, T.ib_27, T.ib_3, T.ii_22, T.ii_26, T.ii_3, T.ii_33, T.ii_37, T.ii_38, T.ii_39, T.ip_26, T.ip_27, T.ip_3, T.pl_32, T.s8_22, T.s8_26, T.s8_3, T.s8_33, T.s8_37, T.s8_38, T.s8_39, T.sl_22, T.sl_26, T.sl_3, T.sl_33, T.sl_37, T.sl_38, T.sl_39, T.st_22, T.st_26, T.st_3, T.st_33, T.st_37, T.st_38, T.st_39, T.un_22, T.un_26, T.un_3, T.un_33, T.un_37, T.un_38, T.un_39, T.zo_32, T.zo_41]
              refine ⟨flat_one _, app_own (E := intE) (ns := R.2.2.1) hO5 rfl rfl rfl (by rw [List.nil_append]; exact ⟨by omega, by omega⟩) fun u6 H6 E6 hO6 hU6 hE6 => ?_⟩
              simp (config := { dsimp := false, maxSteps := 10000000 }) (disch := omega) only [go_sem, reduceIte, Nat.reduceEqDiff, reduceCtorEq, Nat.reduceAdd, Nat.reduceMul, Int.reduceToNat, Int.reduceLE, Int.reduceLT, Int.reduceEq, Int.reduceNe, Nat.reduceLeDiff, Int.reducePow, Nat.reducePow, Nat.reduceLT, Nat.reduceSub, Nat.reduceMod, Nat.reduceDiv, slot_neg, slot_pos, T.ag_3, T.ag_39, T.ag_4, T.ag_41, T.eb_22, T.eb_33, T.eb_38, T.es_22, T.es_37, T.es_38, T.es_39, T.ez_22, T.ez_33, T.ez_38, T.fo_41_0, T.fo_41_2, T.fo_41_4, T.fo_41_5, T.fo_41_6, T.fo_42_0, T.fo_42_1, T.gf_10, T.gf_11, T.gf_13, T.gf_14, T.gf_15, T.gf_8, T.gf_9, T.ib_26, T.ib_27, T.ib_3, T.ii_22, T.ii_26, T.ii_3, T.ii_33, T.ii_37, T.ii_38, T.ii_39, T.ip_26, T.ip_27, T.ip_3, T.pl_32, T.s8_22, T.s8_26, T.s8_3, T.s8_33, T.s8_37, T.s8_38, T.s8_39, T.sl_22, T.sl_26, T.sl_3, T.sl_33, T.sl_37, T.sl_38, T.sl_39, T.st_22, T.st_26, T.st_3, T.st_33, T.st_37, T.st_38, T.st_39, T.un_22, T.un_26, T.un_3, T.un_33, T.un_37, T.un_38, T.un_39, T.zo_32, T.zo_41, z0, z3, z4, z5, z6, z7, z8, z9]
              have hnx := hOv.upd.1
              have n1 : Hv.next ≤ H3.next := hU3.1
              have n2 : H3.next ≤ H4.next := f10.1
              have n3 : H4.next ≤ H5.next := hU5.1
              have n4 : H5.next ≤ H6.next := hU6.1
              have hl4 : ∀ d ∈ D4, d < Hv.next := hOv.sizes.lt
              have hl5 : ∀ d ∈ D5, d < Hv.next := hOv.tolds.lt
              have hlE6 := hO6.lt
              have m5 : ∀ d ∈ E5, H4.next ≤ d := fun d hd => by simpa using hE5 d hd
              have m6 : ∀ d ∈ E6, H4.next ≤ d := fun d hd => by
                rcases hE6 d hd with h1 | h1
                · exact m5 d h1
                · omega
              have hU46 : Upd H4 H6 [] := hU5.trans hU6 fun d hd => .inr (m5 d hd)
              have hU06 : Upd Hv H6 (p :: D) := ((hU3.mono (G := p :: D) (by simp)).trans f10 fun d hd => .inl hd).trans hU46 (by simp)
              refine ⟨al, told, s, R.1, R.2.1 ++ R.2.2.1, D3, D4, D5, by omega, by simp; omega, hal2.2.2, ⟨f6.upd hU46 (by simp) (by simp), hOv.sizes.upd hU06 fun d hd => ?_, hOv.tolds.upd hU06 fun d hd => ?_, hOv.inv, htl, hok2, hO6.num, fun A n st e hd => ?_, ⟨hOv.new.1, fun d hd => ?_, hOv.new.2.2⟩, ⟨fun d hd => ⟨(hOv.apart.1 d hd).1, fun h3 => ?_, (hOv.apart.1 d hd).2.2⟩, fun d hd => ⟨(hOv.apart.2 d hd).1, fun h3 => ?_⟩⟩, hOv.upd.trans hU06 fun d hd => ?_⟩⟩
              · simp; exact ⟨(hOv.apart.1 d hd).1, (hOv.apart.1 d hd).2.1⟩
              · simp; exact ⟨(hOv.apart.2 d hd).1, (hOv.apart.2 d hd).2⟩
              · rcases hO6 with ⟨e2, _⟩ | ⟨q, off, vs, eD, hq, e2, _⟩
                · rw [e2] at e; cases e
                · rw [e2] at e; cases e
                  have := m6 q (by rw [eD]; simp)
                  have := hl5 _ hd
                  simp only at this; omega
              · rcases f7 d hd with h1 | h1
                · exact hOv.new.2.1 d h1
                · omega
              · rcases f7 d h3 with h1 | h1
                · exact (hOv.apart.1 d hd).2.1 h1
                · have := hl4 d hd; omega
              · rcases f7 d h3 with h1 | h1
                · exact (hOv.apart.2 d hd).2 h1
                · have := hl5 d hd; omega
              · rcases List.mem_cons.1 hd with h1 | h1
                · exact .inr (by rw [h1]; exact hOv.new.1)
                · exact .inr (hOv.new.2.1 d h1)
        · have c1 : (x.what = 2) = False := eq_false h2
          simp (config := { dsimp := false, maxSteps := 10000000 }) (disch := omega) only [go_sem, reduceIte, Nat.reduceEqDiff, reduceCtorEq, Nat.reduceAdd, Nat.reduceMul, Int.reduceToNat, Int.reduceLE, Int.reduceLT, Int.reduceEq, Int.reduceNe, Nat.reduceLeDiff, Int.reducePow, Nat.reducePow, Nat.reduceLT, Nat.reduceSub, Nat.reduceMod, Nat.reduceDiv, slot_neg, slot_pos, T.ag_3, T.ag_39, T.ag_4, T.ag_41, T.eb_22, T.eb_33, T.eb_38, T.es_22, T.es_37, T.es_38, T.es_39, T.ez_22, T.ez_33, T.ez_38, T.fo_41_0, T.fo_41_2, T.fo_41_4, T.fo_41_5, T.fo_41_6, T.fo_42_0, T.fo_42_1, T.gf_10, T.gf_11, T.gf_13, T.gf_14, T.gf_15, T.gf_8, T.gf_9, T.ib_26, T.ib_27, T.ib_3, T.ii_22, T.ii_26, T.ii_3, T.ii_33, T.ii_37, T.ii_38, T.ii_39, T.ip_26, T.ip_27, T.ip_3, T.pl_32, T.s8_22, T.s8_26, T.s8_3, T.s8_33, T.s8_37, T.s8_38, T.s8_39, T.sl_22, T.sl_26, T.sl_3, T.sl_33, T.sl_37, T.sl_38, T.sl_39, T.st_22, T.st_26, T.st_3, T.st_33, T.st_37, T.st_38, T.st_39, T.un_22, T.un_26, T.un_3, T.un_33, T.un_37, T.un_38, T.un_39, T.zo_32, T.zo_41, c1]
          refine CodeH.condF (okc hoks).1 rfl ?_
          replace hoks := (okc hoks).2.2
          refine CodeH.seq' (CodeH.of_vc [] hm (okl hoks) ?_)
          replace hoks := okr hoks
          by_cases h3 : x.what = 3
          · have c2 : (x.what = 3) = True := eq_true h3
            simp (config := { dsimp := false, maxSteps := 10000000 }) (disch := omega) only [go_sem, reduceIte, Nat.reduceEqDiff, reduceCtorEq, Nat.reduceAdd, Nat.reduceMul, Int.reduceToNat, Int.reduceLE, Int.reduceLT, Int.reduceEq, Int.reduceNe, Nat.reduceLeDiff, Int.reducePow, Nat.reducePow, Nat.reduceLT, Nat.reduceSub, Nat.reduceMod, Nat.reduceDiv, slot_neg, slot_pos, T.ag_3, T.ag_39, T.ag_4, T.ag_41, T.eb_22, T.eb_33, T.eb_38, T.es_22, T.es_37, T.es_38, T.es_39, T.ez_22, T.ez_33, T.ez_38, T.fo_41_0, T.fo_41_2, T.fo_41_4, T.fo_41_5, T.fo_41_6, T.fo_42_0, T.fo_42_1, T.gf_10, T.gf_11, T.gf_13, T.gf_14, T.gf_15, T.gf_8, T.gf_9, T.ib_26, T.ib_27, T.ib_3, T.ii_22, T.ii_26, T.ii_3, T.ii_33, T.ii_37, T.ii_38, T.ii_39, T.ip_26, T.ip_27, T.ip_3, T.pl_32, T.s8_22, T.s8_26, T.s8_3, T.s8_33, T.s8_37, T.s8_38, T.s8_39, T.sl_22, T.sl_26, T.sl_3, T.sl_33, T.sl_37, T.sl_38, T.sl_39, T.st_22, T.st_26, T.st_3, T.st_33, T.st_37, T.st_38, T.st_39, T.un_22, T.un_26, T.un_3, T.un_33, T.un_37, T.un_38, T.un_39, T.zo_32, T.zo_41, c2]
            refine CodeH.condT (okc hoks).1 rfl ?_
            replace hoks := (okc hoks).2.1
            refine CodeH.seq' (CodeH.of_vc [] hm (okl hoks) ?_)
            replace hoks := okr hoks
            simp (config := { dsimp := false, maxSteps := 10000000 }) (disch := omega) only [go_sem, reduceIte, Nat.reduceEqDiff, reduceCtorEq, Nat.reduceAdd, Nat.reduceMul, Int.reduceToNat, Int.reduceLE, Int.reduceLT, Int.reduceEq, Int.reduceNe, Nat.reduceLeDiff, Int.reducePow, Nat.reducePow, Nat.reduceLT, Nat.reduceSub, Nat.reduceMod, Nat.reduceDiv, slot_neg, slot_pos, T.ag_3, T.ag_39, T.ag_4, T.ag_41, T.eb_22, T.eb_33, T.eb_38, T.es_22, T.es_37, T.es_38, T.es_39, T.ez_22, T.ez_33, T.ez_38, T.fo_41_0, T.fo_41_2, T.fo_41_4, T.fo_41_5, T.fo_41_6, T.fo_42_0, T.fo_42_1, T.gf_10, T.gf_11, T.gf_13, T.gf_14, T.gf_15, T.gf_8, T.gf_9, T.ib_26, T.ib_27, T.ib_3, T.ii_22, T.ii_26, T.ii_3, T.ii_33, T.ii_37, T.ii_38, T.ii_39, T.ip_26, T.ip_27, T.ip_3, T.pl_32, T.s8_22, T.s8_26, T.s8_3, T.s8_33, T.s8_37, T.s8_38, T.s8_39, T.sl_22, T.sl_26, T.sl_3, T.sl_33, T.sl_37, T.sl_38, T.sl_39, T.st_22, T.st_26, T.st_3, T.st_33, T.st_37, T.st_38, T.st_39, T.un_22, T.un_26, T.un_3, T.un_33, T.un_37, T.un_38, T.un_39, T.zo_32, T.zo_41, p3, p6]
            have hlD := hOv.st.lt
            refine (Fire_ph Hv p D s now2 hOv.st hOv.inv.ok).mono fun u H2 ⟨v2, D2, f1, f2, f3, ⟨D3, f4, f5, f6⟩, f7⟩ => ?_
            have hto : timeOk s now2 = true := decide_eq_true ⟨by omega, hnw.2⟩
            have hfe : (fireS s now2).2.2.2 = 0 := by unfold fireS; rw [if_pos hto]; simp only; split; (split <;> rfl); rfl
            rw [hfe] at f1
            subst f1
            simp (config := { dsimp := false, maxSteps := 10000000 }) (disch := omega) only [go_sem, reduceIte, Nat.reduceEqDiff, reduceCtorEq, Nat.reduceAdd, Nat.reduceMul, Int.reduceToNat, Int.reduceLE, Int.reduceLT, Int.reduceEq, Int.reduceNe, Nat.reduceLeDiff, Int.reducePow, Nat.reducePow, Nat.reduceLT, Nat.reduceSub, Nat.reduceMod, Nat.reduceDiv, slot_neg, slot_pos, T.ag_3, T.ag_39, T.ag_4, T.ag_41, T.eb_22, T.eb_33, T.eb_38, T.es_22, T.es_37, T.es_38, T.es_39, T.ez_22, T.ez_33, T.ez_38, T.fo_41_0, T.fo_41_2, T.fo_41_4, T.fo_41_5, T.fo_41_6, T.fo_42_0, T.fo_42_1, T.gf_10, T.gf_11, T.gf_13, T.gf_14, T.gf_15, T.gf_8, T.gf_9, T.ib_26, T.ib_27, T.ib_3, T.ii_22, T.ii_26, T.ii_3, T.ii_33, T.ii_37, T.ii_38, T.ii_39, T.ip_26, T.ip_27, T.ip_3, T.pl_32, T.s8_22, T.s8_26, T.s8_3, T.s8_33, T.s8_37, T.s8_38, T.s8_39, T.sl_22, T.sl_26, T.sl_3, T.sl_33, T.sl_37, T.sl_38, T.sl_39, T.st_22, T.st_26, T.st_3, T.st_33, T.st_37, T.st_38, T.st_39, T.un_22, T.un_26, T.un_3, T.un_33, T.un_37, T.un_38, T.un_39, T.zo_32, T.zo_41]
            refine CodeH.of_vc [] hm hoks ?_
            simp (config := { dsimp := false, maxSteps := 10000000 }) (disch := omega) only [go_sem, reduceIte, Nat.reduceEqDiff, reduceCtorEq, Nat.reduceAdd, Nat.reduceMul, Int.reduceToNat, Int.reduceLE, Int.reduceLT, Int.reduceEq, Int.reduceNe, Nat.reduceLeDiff, Int.reducePow, Nat.reducePow, Nat.reduceLT, Nat.reduceSub, Nat.reduceMod, Nat.reduceDiv, slot_neg, slot_pos, T.ag_3, T.ag_39, T.ag_4, T.ag_41, T.eb_22, T.eb_33, T.eb_38, T.es_22, T.es_37, T.es_38, T.es_39, T.ez_22, T.ez_33, T.ez_38, T.fo_41_0, T.fo_41_2, T.fo_41_4, T.fo_41_5, T.fo_41_6, T.fo_42_0, T.fo_42_1, T.gf_10, T.gf_11, T.gf_13, T.gf_14, T.gf_15, T.gf_8, T.gf_9, T.ib_26, T.ib_27, T.ib_3, T.ii_22, T.ii_26, T.ii_3, T.ii_33, T.ii_37, T.ii_38, T.ii_39, T.ip_26, T.ip_27, T.ip_3, T.pl_32, T.s8_22, T.s8_26, T.s8_3, T.s8_33, T.s8_37, T.s8_38, T.s8_39, T.sl_22, T.sl_26, T.sl_3, T.sl_33, T.sl_37, T.sl_38, T.sl_39, T.st_22, T.st_26, T.st_3, T.st_33, T.st_37, T.st_38, T.st_39, T.un_22, T.un_26, T.un_3, T.un_33, T.un_37, T.un_38, T.un_39, T.zo_32, T.zo_41, p0, p3, p4, p5, p6, p7]
            have hlen := hOv.inv.ok.len
            have hfl := fire_len s now2 (by omega)
            have hpv := hOv.st.1
            have hf2 : ∀ d ∈ D5, d < Hv.next := hOv.tolds.lt
            have hf4 : ∀ d ∈ D4, d < Hv.next := hOv.sizes.lt
            have hk5 : ∀ d ∈ D5, d ∉ p :: D := fun d hd => by simp; exact ⟨(hOv.apart.2 d hd).1, (hOv.apart.2 d hd).2⟩
            have hk4 : ∀ d ∈ D4, d ∉ p :: D := fun d hd => by simp; exact ⟨(hOv.apart.1 d hd).1, (hOv.apart.1 d hd).2.1⟩
            have hnx := hOv.upd.1
            refine ⟨al, told, s, (fireS s now2).1, (fireS s now2).2.1, D3, D4, D5, by omega, by omega, hfl.2, ⟨f4, hOv.sizes.upd f7 hk4, hOv.tolds.upd f7 hk5, hOv.inv, fire_tells s now2 hOv.inv.nodup, hOv.inv.ok.fireS now2, f2.num, fun A n st e hd => ?_, ⟨hOv.new.1, fun d hd => ?_, hOv.new.2.2⟩, ⟨fun d hd => ⟨(hOv.apart.1 d hd).1, fun h3 => ?_, (hOv.apart.1 d hd).2.2⟩, fun d hd => ⟨(hOv.apart.2 d hd).1, fun h3 => ?_⟩⟩, hOv.upd.trans f7 fun d hd => ?_⟩⟩
            · rcases f2 with ⟨e2, _⟩ | ⟨q, off, vs, eD, hq, e2, _⟩
              · rw [e2] at e; cases e
              · rw [e2] at e; cases e
                have := (f3 q (by rw [eD]; simp)).1
                have := hf2 _ hd
                simp only at this; omega
            · rcases f5 d hd with h1 | h1
              · exact hOv.new.2.1 d h1
              · omega
            · rcases f5 d h3 with h1 | h1
              · exact (hOv.apart.1 d hd).2.1 h1
              · have := hf4 d hd; omega
            · rcases f5 d h3 with h1 | h1
              · exact (hOv.apart.2 d hd).2 h1
              · have := hf2 d hd; omega
            · rcases List.mem_cons.1 hd with h1 | h1
              · exact .inr (by rw [h1]; exact hOv.new.1)
              · exact .inr (hOv.new.2.1 d h1)
          · have c2 : (x.what = 3) = False := eq_false h3
            simp (config := { dsimp := false, maxSteps := 10000000 }) (disch := omega) only [go_sem, reduceIte, Nat.reduceEqDiff, reduceCtorEq, Nat.reduceAdd, Nat.reduceMul, Int.reduceToNat, Int.reduceLE, Int.reduceLT, Int.reduceEq, Int.reduceNe, Nat.reduceLeDiff, Int.reducePow, Nat.reducePow, Nat.reduceLT, Nat.reduceSub, Nat.reduceMod, Nat.reduceDiv, slot_neg, slot_pos, T.ag_3, T.ag_39, T.ag_4, T.ag_41, T.eb_22, T.eb_33, T.eb_38, T.es_22, T.es_37, T.es_38, T.es_39, T.ez_22, T.ez_33, T.ez_38, T.fo_41_0, T.fo_41_2, T.fo_41_4, T.fo_41_5, T.fo_41_6, T.fo_42_0, T.fo_42_1, T.gf_10, T.gf_11, T.gf_13, T.gf_14, T.gf_15, T.gf_8, T.gf_9, T.ib_26, T.ib_27, T.ib_3, T.ii_22, T.ii_26, T.ii_3, T.ii_33, T.ii_37, T.ii_38, T.ii_39, T.ip_26, T.ip_27, T.ip_3, T.pl_32, T.s8_22, T.s8_26, T.s8_3, T.s8_33, T.s8_37, T.s8_38, T.s8_39, T.sl_22, T.sl_26, T.sl_3, T.sl_33, T.sl_37, T.sl_38, T.sl_39, T.st_22, T.st_26, T.st_3, T.st_33, T.st_37, T.st_38, T.st_39, T.un_22, T.un_26, T.un_3, T.un_33, T.un_37, T.un_38, T.un_39, T.zo_32, T.zo_41, c2]
            refine CodeH.condF (okc hoks).1 rfl ?_
            replace hoks := (okc hoks).2.2
            obtain ⟨kz, hkz, ekz⟩ := modm x.size 2000 (by omega)
            have wz : IntKind.i64.wrap (1 + (kz : Int)) = 1 + kz := i64wrap (by omega) (by omega)
            refine CodeH.seq' (CodeH.of_vc [] hm (okl hoks) ?_)
            replace hoks := okr hoks
            simp (config := { dsimp := false, maxSteps := 10000000 }) (disch := omega) only [go_sem, reduceIte, Nat.reduceEqDiff, reduceCtorEq, Nat.reduceAdd, Nat.reduceMul, Int.reduceToNat, Int.reduceLE, Int.reduceLT, Int.reduceEq, Int.reduceNe, Nat.reduceLeDiff, Int.reducePow, Nat.reducePow, Nat.reduceLT, Nat.reduceSub, Nat.reduceMod, Nat.reduceDiv, slot_neg, slot_pos, T.ag_3, T.ag_39, T.ag_4, T.ag_41, T.eb_22, T.eb_33, T.eb_38, T.es_22, T.es_37, T.es_38, T.es_39, T.ez_22, T.ez_33, T.ez_38, T.fo_41_0, T.fo_41_2, T.fo_41_4, T.fo_41_5, T.fo_41_6, T.fo_42_0, T.fo_42_1, T.gf_10, T.gf_11, T.gf_13, T.gf_14, T.gf_15, T.gf_8, T.gf_9, T.ib_26, T.ib_27, T.ib_3, T.ii_22, T.ii_26, T.ii_3, T.ii_33, T.ii_37, T.ii_38, T.ii_39, T.ip_26, T.ip_27, T.ip_3, T.pl_32, T.s8_22, T.s8_26, T.s8_3, T.s8_33, T.s8_37, T.s8_38, T.s8_39, T.sl_22, T.sl_26, T.sl_3, T.sl_33, T.sl_37, T.sl_38, T.sl_39, T.st_22, T.st_26, T.st_3, T.st_33, T.st_37, T.st_38, T.st_39, T.un_22, T.un_26, T.un_3, T.un_33, T.un_37, T.un_38, T.un_39, T.zo_32, T.zo_41, p8, gv, ekz, wz]
            refine CodeH.seq' (CodeH.of_vc [] hm (okl hoks) ?_)
            replace hoks := okr hoks
            obtain ⟨A4, st4, e4⟩ := hOv.sizes.row.form
            rw [List.length_map] at e4
            rw [e4] at p4
            simp (config := { dsimp := false, maxSteps := 10000000 }) (disch := omega) only [go_sem, reduceIte, Nat.reduceEqDiff, reduceCtorEq, Nat.reduceAdd, Nat.reduceMul, Int.reduceToNat, Int.reduceLE, Int.reduceLT, Int.reduceEq, Int.reduceNe, Nat.reduceLeDiff, Int.reducePow, Nat.reducePow, Nat.reduceLT, Nat.reduceSub, Nat.reduceMod, Nat.reduceDiv, slot_neg, slot_pos, T.ag_3, T.ag_39, T.ag_4, T.ag_41, T.eb_22, T.eb_33, T.eb_38, T.es_22, T.es_37, T.es_38, T.es_39, T.ez_22, T.ez_33, T.ez_38, T.fo_41_0, T.fo_41_2, T.fo_41_4, T.fo_41_5, T.fo_41_6, T.fo_42_0, T.fo_42_1, T.gf_10, T.gf_11, T.gf_13, T.gf_14, T.gf_15, T.gf_8, T.gf_9, T.ib_26, T.ib_27, T.ib_3, T.ii_22, T.ii_26, T.ii_3, T.ii_33, T.ii_37, T.ii_38, T.ii_39, T.ip_26, T.ip_27, T.ip_3, T.pl_32, T.s8_22, T.s8_26, T.s8_3, T.s8_33, T.s8_37, T.s8_38, T.s8_39, T.sl_22, T.sl_26, T.sl_3, T.sl_33, T.sl_37, T.sl_38, T.sl_39, T.st_22, T.st_26, T.st_3, T.st_33, T.st_37, T.st_38, T.st_39, T.un_22, T.un_26, T.un_3, T.un_33, T.un_37, T.un_38, T.un_39, T.zo_32, T.zo_41, p3, p4, p6]
            have hto : timeOk s now2 = true := decide_eq_true ⟨by omega, hnw.2⟩
            have htop := hOv.inv.top
            have hso : sentOk s al.length (1 + (kz : Int)) now2 = true := by
              unfold sentOk; rw [hto, Bool.true_and]
              exact decide_eq_true ⟨by omega, by omega, by omega, by omega⟩
            have hwl : s.waits.length < 100000 := by rw [hOv.inv.waits]; have := List.length_filter_le (untold told) al; omega
            refine (Sent_ph Hv p D s al.length (1 + (kz : Int)) now2 true hOv.st hOv.inv.ok hwl).mono fun u H2 ⟨f1, ⟨D3, f4, f5⟩, f7⟩ => ?_
            rw [hso] at f1 f4
            simp only [if_true] at f1 f4
            subst f1
            simp (config := { dsimp := false, maxSteps := 10000000 }) (disch := omega) only [go_sem, reduceIte, Nat.reduceEqDiff, reduceCtorEq, Nat.reduceAdd, Nat.reduceMul, Int.reduceToNat, Int.reduceLE, Int.reduceLT, Int.reduceEq, Int.reduceNe, Nat.reduceLeDiff, Int.reducePow, Nat.reducePow, Nat.reduceLT, Nat.reduceSub, Nat.reduceMod, Nat.reduceDiv, slot_neg, slot_pos, T.ag_3, T.ag_39, T.ag_4, T.ag_41, T.eb_22, T.eb_33, T.eb_38, T.es_22, T.es_37, T.es_38, T.es_39, T.ez_22, T.ez_33, T.ez_38, T.fo_41_0, T.fo_41_2, T.fo_41_4, T.fo_41_5, T.fo_41_6, T.fo_42_0, T.fo_42_1, T.gf_10, T.gf_11, T.gf_13, T.gf_14, T.gf_15, T.gf_8, T.gf_9, T.ib_26, T.ib_27, T.ib_3, T.ii_22, T.ii_26, T.ii_3, T.ii_33, T.ii_37, T.ii_38, T.ii_39, T.ip_26, T.ip_27, T.ip_3, T.pl_32, T.s8_22, T.s8_26, T.s8_3, T.s8_33, T.s8_37, T.s8_38, T.s8_39, T.sl_22, T.sl_26, T.sl_3, T.sl_33, T.sl_37, T.sl_38, T.sl_39, T.st_22, T.st_26, T.st_3, T.st_33, T.st_37, T.st_38, T.st_39, T.un_22, T.un_26, T.un_3, T.un_33, T.un_37, T.un_38, T.un_39, T.zo_32, T.zo_41]
            refine CodeH.of_vc [] hm hoks ?_
            simp (config := { dsimp := false, maxSteps := 10000000 }) (disch := omega) only [go_sem, reduceIte, Nat.reduceEqDiff, reduceCtorEq, Nat.reduceAdd, Nat.reduceMul, Int.reduceToNat, Int.reduceLE, Int.reduceLT, Int.reduceEq, Int.reduceNe, Nat.reduceLeDiff, Int.reducePow, Nat.reducePow, Nat.reduceLT, Nat.reduceSub, Nat.reduceMod, Nat.reduceDiv, slot_neg, slot_pos, T.ag_3, T.ag_39, T.ag_4, T.ag_41, T.eb_22, T.eb_33, T.eb_38, T.es_22, T.es_37, T.es_38, T.es_39, T.ez_22, T.ez_33, T.ez_38, T.fo_41_0, T.fo_41_2, T.fo_41_4, T.fo_41_5, T.fo_41_6, T.fo_42_0, T.fo_42_1, T.gf_10, T.gf_11, T.gf_13, T.gf_14, T.gf_15, T.gf_8, T.gf_9, T.ib_26, T.ib_27, T.ib_3, T.ii_22, T.ii_26, T.ii_3, T.ii_33, T.ii_37, T.ii_38, T.ii_39, T.ip_26, T.ip_27, T.ip_3, T.pl_32, T.s8_22, T.s8_26, T.s8_3, T.s8_33, T.s8_37, T.s8_38, T.s8_39, T.sl_22, T.sl_26, T.sl_3, T.sl_33, T.sl_37, T.sl_38, T.sl_39, T.st_22, T.st_26, T.st_3, T.st_33, T.st_37, T.st_38, T.st_39, T.un_22, T.un_26, T.un_3, T.un_33, T.un_37, T.un_38, T.un_39, T.zo_32, T.zo_41, p0, p3, p4, p5, p6, p7]
            have hk5 : ∀ d ∈ D5, d ∉ p :: D := fun d hd => by simp; exact ⟨(hOv.apart.2 d hd).1, (hOv.apart.2 d hd).2⟩
            have hk4 : ∀ d ∈ D4, d ∉ p :: D := fun d hd => by simp; exact ⟨(hOv.apart.1 d hd).1, (hOv.apart.1 d hd).2.1⟩
            have hs4 := hOv.sizes.upd f7 hk4
            have hs5 := hOv.tolds.upd f7 hk5
            obtain ⟨A5, st5, e5⟩ := hs5.row.form
            rw [e4] at hs4
            have hg2 : ∀ (b : Blk) d, d < H2.next → (H2.alloc b).get d = H2.get d := fun b d hd => by rw [get_alloc, if_neg (by omega)]
            refine app_own (E := intE) (ns := [1 + (kz : Int)]) (hs4.keep (Nat.le_succ _) fun d hd => hg2 _ d (hs4.lt d hd)) rfl rfl rfl (by simp; omega) fun u4 H4 E4 hO4 hU4 hE4 => ?_
            simp (config := { dsimp := false, maxSteps := 10000000 }) (disch := omega) only [go_sem, reduceIte, Nat.reduceEqDiff, reduceCtorEq, Nat.reduceAdd, Nat.reduceMul, Int.reduceToNat, Int.reduceLE, Int.reduceLT, Int.reduceEq, Int.reduceNe, Nat.reduceLeDiff, Int.reducePow, Nat.reducePow, Nat.reduceLT, Nat.reduceSub, Nat.reduceMod, Nat.reduceDiv, slot_neg, slot_pos, T.ag_3, T.ag_39, T.ag_4, T.ag_41, T.eb_22, T.eb_33, T.eb_38, T.es_22, T.es_37, T.es_38, T.es_39, T.ez_22, T.ez_33, T.ez_38, T.fo_41_0, T.fo_41_2, T.fo_41_4, T.fo_41_5, T.fo_41_6, T.fo_42_0, T.fo_42_1, T.gf_10, T.gf_11, T.gf_13, T.gf_14, T.gf_15, T.gf_8, T.gf_9, T.ib_26, T.ib_27, T.ib_3, T.ii_22, T.ii_26, T.ii_3, T.ii_33, T.ii_37, T.ii_38, T.ii_39, T.ip_26, T.ip_27, T.ip_3, T.pl_32, T.s8_22, T.s8_26, T.s8_3, T.s8_33, T.s8_37, T.s8_38, T.s8_39, T.sl_22, T.sl_26, T.sl_3, T.sl_33, T.sl_37, T.sl_38, T.sl_39, T.st_22, T.st_26, T.st_3, T.st_33, T.st_37, T.st_38, T.st_39, T.un_22, T.un_26, T.un_3, T.un_33, T.un_37, T.un_38, T.un_39, T.zo_32, T.zo_41, e5]
            have htl80 : told.length ≤ 80 := by have := hOv.inv.len; omega
            have h54 : ∀ d ∈ D5, d ∉ D4 := fun d hd h4 => (hOv.apart.1 d h4).2.2 hd
            have hs5' := (hs5.upd (Upd.alloc H2 (.cells [.int .i64 (1 + (kz : Int))] .own) []) (by simp)).upd hU4 h54
            rw [p5]
            have hg4 : ∀ (b : Blk) d, d < H4.next → (H4.alloc b).get d = H4.get d := fun b d hd => by rw [get_alloc, if_neg (by omega)]
            refine app_own (E := boolE) (ns := [false]) (hs5'.keep (Nat.le_succ _) fun d hd => hg4 _ d (hs5'.lt d hd)) rfl rfl rfl (by rw [show ([false] : List Bool).length = 1 from rfl]; omega) fun u5 H5 E5 hO5 hU5 hE5 => ?_
            simp (config := { dsimp := false, maxSteps := 10000000 }) (disch := omega) only [go_sem, reduceIte, Nat.reduceEqDiff, reduceCtorEq, Nat.reduceAdd, Nat.reduceMul, Int.reduceToNat, Int.reduceLE, Int.reduceLT, Int.reduceEq, Int.reduceNe, Nat.reduceLeDiff, Int.reducePow, Nat.reducePow, Nat.reduceLT, Nat.reduceSub, Nat.reduceMod, Nat.reduceDiv, slot_neg, slot_pos, T.ag_3, T.ag_39, T.ag_4, T.ag_41, T.eb_22, T.eb_33, T.eb_38, T.es_22, T.es_37, T.es_38, T.es_39, T.ez_22, T.ez_33, T.ez_38, T.fo_41_0, T.fo_41_2, T.fo_41_4, T.fo_41_5, T.fo_41_6, T.fo_42_0, T.fo_42_1, T.gf_10, T.gf_11, T.gf_13, T.gf_14, T.gf_15, T.gf_8, T.gf_9, T.ib_26, T.ib_27, T.ib_3, T.ii_22, T.ii_26, T.ii_3, T.ii_33, T.ii_37, T.ii_38, T.ii_39, T.ip_26, T.ip_27, T.ip_3, T.pl_32, T.s8_22, T.s8_26, T.s8_3, T.s8_33, T.s8_37, T.s8_38, T.s8_39, T.sl_22, T.sl_26, T.sl_3, T.sl_33, T.sl_37, T.sl_38, T.sl_39, T.st_22, T.st_26, T.st_3, T.st_33, T.st_37, T.st_38, T.st_39, T.un_22, T.un_26, T.un_3, T.un_33, T.un_37, T.un_38, T.un_39, T.zo_32, T.zo_41, p0, p3, p6, p7]
            rw [p9]
            have hnx := hOv.upd.1
            have n1 : Hv.next ≤ H2.next := f7.1
            have n2 : H2.next + 1 ≤ H4.next := hU4.1
            have n3 : H4.next + 1 ≤ H5.next := hU5.1
            have hpv : p < Hv.next := hOv.st.1
            have hlD := hOv.st.lt
            have hl3 := f4.lt
            have hl4 : ∀ d ∈ D4, d < Hv.next := hOv.sizes.lt
            have hl5 : ∀ d ∈ D5, d < Hv.next := hOv.tolds.lt
            have hlE4 := hO4.lt
            have hlE5 := hO5.lt
            have m4 : ∀ d ∈ E4, d ∈ D4 ∨ H2.next + 1 ≤ d := hE4
            have m5 : ∀ d ∈ E5, d ∈ D5 ∨ H4.next + 1 ≤ d := hE5
            have a34 : ∀ d ∈ D3, d ∉ D4 := fun d h3 h4 => by
              rcases f5 d h3 with h1 | h1
              · exact (hOv.apart.1 d h4).2.1 h1
              · have := hl4 d h4; omega
            have a35 : ∀ d ∈ D3, d ∉ D5 := fun d h3 h5 => by
              rcases f5 d h3 with h1 | h1
              · exact (hOv.apart.2 d h5).2 h1
              · have := hl5 d h5; omega
            refine ⟨al ++ [⟨(al.length : Int), 1 + kz, now2, true⟩], told ++ [false], sentS s al.length (1 + kz) true now2, sentS s al.length (1 + kz) true now2, [], D3, E4, E5, by simp; omega, by simp, Int.le_refl _, ⟨?_, ?_, hO5, hOv.inv.sent (by omega) hso, ?_, hOv.inv.ok.sent hwl hso, (OwnRow.nil _).num, by simp, ⟨hOv.new.1, fun d hd => ?_, fun d hd => ?_, fun d hd => ?_⟩, ⟨fun d hd => ?_, fun d hd => ?_⟩, ?_⟩⟩
            · exact ((((f4.upd (Upd.alloc H2 (.cells [.int .i64 (1 + (kz : Int))] .own) []) (by simp) (by simp)).upd hU4 (fun h4 => (hOv.apart.1 _ h4).1 rfl) a34).upd (Upd.alloc H4 (.cells [.bool false] .own) []) (by simp) (by simp)).upd hU5 (fun h4 => (hOv.apart.2 _ h4).1 rfl) a35)
            · rw [List.map_append]
              refine (hO4.upd (Upd.alloc H4 (.cells [.bool false] .own) []) (by simp)).upd hU5 fun d hd h5 => ?_
              rcases m4 d hd with h1 | h1
              · exact (hOv.apart.1 d h1).2.2 h5
              · have := hl5 d h5; omega
            · exact ⟨⟨fun _ => false, (List.filter_eq_self.2 fun _ _ => rfl).symm, fun x _ => by simp⟩, fun _ => List.nodup_nil, by simp, rfl⟩
            · rcases f5 d hd with h1 | h1
              · exact hOv.new.2.1 d h1
              · omega
            · rcases m4 d hd with h1 | h1
              · exact hOv.new.2.2.1 d h1
              · omega
            · rcases m5 d hd with h1 | h1
              · exact hOv.new.2.2.2 d h1
              · omega
            · have hE := hlE4 d hd
              rcases m4 d hd with h1 | h1
              · have h9 := hl4 d h1
                exact ⟨(hOv.apart.1 d h1).1, fun h3 => a34 d h3 h1, fun h5 => by
                  rcases m5 d h5 with h6 | h6
                  · exact (hOv.apart.1 d h1).2.2 h6
                  · omega⟩
              · exact ⟨by omega, fun h3 => by have := hl3 d h3; omega, fun h5 => by
                  rcases m5 d h5 with h6 | h6
                  · have := hl5 d h6; omega
                  · omega⟩
            · rcases m5 d hd with h1 | h1
              · exact ⟨(hOv.apart.2 d h1).1, fun h3 => a35 d h3 h1⟩
              · exact ⟨by omega, fun h3 => by have := hl3 d h3; omega⟩
            · refine (((hOv.upd.trans f7 fun d hd => ?_).trans (Upd.alloc H2 (.cells [.int .i64 (1 + (kz : Int))] .own) []) (by simp)).trans hU4 fun d hd => .inr (hOv.new.2.2.1 d hd)).trans ((Upd.alloc H4 (.cells [.bool false] .own) D5).trans hU5 fun d hd => .inl hd) fun d hd => .inr (hOv.new.2.2.2 d hd)
              rcases List.mem_cons.1 hd with h1 | h1
              · exact .inr (by rw [h1]; exact hOv.new.1)
              · exact .inr (hOv.new.2.1 d h1)
      · rintro r' H' ⟨u0, u3, u6, u7, al2, told2, s2, s3, l, E, E4, E5, ha2, hll, hn3, hP⟩
        replace hokb := okr hokb
        have hokp := okl hokb
        replace hokb := okr hokb
        refine CodeH.seq (fun r3 H3 => r3 0 = s0 ∧ r3 3 = .pointer (some ⟨p, 0, none⟩) ∧ r3 6 = .int .i64 now2 ∧ r3 7 = .int .i64 i ∧ OO H0 p (r3 4) (r3 5) al2 (setAll told2 l) s3 E E4 E5 H3) (CodeH.of_vc [] hm hokp ?_) ?_
        · clear hokp hokb hok
          obtain ⟨htell, hks⟩ := hP.inv.tell hP.tells hP.ok
          generalize w4e : r' 4 = w4 at *
          generalize w5e : r' 5 = w5 at *
          generalize w9e : r' 9 = w9 at *
          obtain ⟨A9, st9, e9⟩ := hP.row.len
          obtain ⟨A5, st5, e5⟩ := hP.tolds.row.form
          simp (config := { dsimp := false, maxSteps := 10000000 }) (disch := omega) only [go_sem, reduceIte, Nat.reduceEqDiff, reduceCtorEq, Nat.reduceAdd, Nat.reduceMul, Int.reduceToNat, Int.reduceLE, Int.reduceLT, Int.reduceEq, Int.reduceNe, Nat.reduceLeDiff, Int.reducePow, Nat.reducePow, Nat.reduceLT, Nat.reduceSub, Nat.reduceMod, Nat.reduceDiv, slot_neg, slot_pos, T.ag_3, T.ag_39, T.ag_4, T.ag_41, T.eb_22, T.eb_33, T.eb_38, T.es_22, T.es_37, T.es_38, T.es_39, T.ez_22, T.ez_33, T.ez_38, T.fo_41_0, T.fo_41_2, T.fo_41_4, T.fo_41_5, T.fo_41_6, T.fo_42_0, T.fo_42_1, T.gf_10, T.gf_11, T.gf_13, T.gf_14, T.gf_15, T.gf_8, T.gf_9, T.ib_26, T.ib_27, T.ib_3, T.ii_22, T.ii_26, T.ii_3, T.ii_33, T.ii_37, T.ii_38, T.ii_39, T.ip_26, T.ip_27, T.ip_3, T.pl_32, T.s8_22, T.s8_26, T.s8_3, T.s8_33, T.s8_37, T.s8_38, T.s8_39, T.sl_22, T.sl_26, T.sl_3, T.sl_33, T.sl_37, T.sl_38, T.sl_39, T.st_22, T.st_26, T.st_3, T.st_33, T.st_37, T.st_38, T.st_39, T.un_22, T.un_26, T.un_3, T.un_33, T.un_37, T.un_38, T.un_39, T.zo_32, T.zo_41]
          refine loop_intro [] hm (fun r3 H3 => ∃ k : Nat, k ≤ l.length ∧ Upd H' H3 E5 ∧ OwnRow boolE H3 w5 E5 (setAll told2 (l.take k)) ∧ r3 0 = s0 ∧ r3 3 = .pointer (some ⟨p, 0, none⟩) ∧ r3 4 = w4 ∧ r3 5 = w5 ∧ r3 6 = .int .i64 now2 ∧ r3 7 = .int .i64 i ∧ r3 9 = w9 ∧ r3 21 = .int .i64 k) (fun r3 _ => match r3 21 with | .int _ k => l.length - k.toNat | _ => 0) ?_ ?_
          · exact ⟨0, by omega, Upd.refl _ _, hP.tolds, by simp [upd, u0], by simp [upd, u3], by simp [upd, w4e], by simp [upd, w5e], by simp [upd, u6], by simp [upd, u7], by simp [upd, w9e], by simp [upd]⟩
          · rintro r3 H3 ⟨k, hk, hU3, hO3, z0, z3, z4, z5, z6, z7, z9, z21⟩
            by_cases hkl : k < l.length
            · have hkl' : ((k : Int) < (l.length : Int)) = True := eq_true (by omega)
              have hxk : l[k]? = some l[k] := List.getElem?_eq_getElem hkl
              obtain ⟨t1, t2, t3⟩ := hks k _ hxk
              have hrow3 : NumR H3 w9 l := ⟨hP.row.1.upd fun A n st e => hU3.2 _ (hP.row.2 A n st e) (hP.rowa A n st e), fun A n st e => Nat.lt_of_lt_of_le (hP.row.2 A n st e) hU3.1⟩
              obtain ⟨qb, offb, wsb, ob, d1, d2, d3⟩ := hrow3.at hxk
              generalize l[k] = nn at hxk t1 t2 t3 d3
              have htl : (setAll told2 (l.take k)).length = told2.length := setAll_len _ _
              rcases hO3 with ⟨_, hnil, _⟩ | ⟨q5, off5, vs5, hDq5, hqn5, hu5, hq5, hR5⟩
              · rw [hnil] at htl; simp at htl; omega
              · have ha5 := hR5.at t3
                have hv5 : vs5[off5 + nn.toNat]? = some (.bool false) := take_one (by have := ha5.1; simpa [boolE] using this)
                have c1 : (nn < 0) = False := eq_false (by omega)
                have c2 : ((told2.length : Int) ≤ nn) = False := eq_false (by omega)
                have c3 : (0 ≤ nn) = True := eq_true t1
                have c4 : (nn < (told2.length : Int)) = True := eq_true t2
                have w1 : IntKind.i64.wrap ((k : Int) + 1) = ((k + 1 : Nat) : Int) := by rw [i64wrap] <;> omega
                rw [htl] at hu5
                have hK : boolE.k = 1 := rfl
                simp (config := { dsimp := false, maxSteps := 10000000 }) (disch := omega) only [go_sem, reduceIte, Nat.reduceEqDiff, reduceCtorEq, Nat.reduceAdd, Nat.reduceMul, Int.reduceToNat, Int.reduceLE, Int.reduceLT, Int.reduceEq, Int.reduceNe, Nat.reduceLeDiff, Int.reducePow, Nat.reducePow, Nat.reduceLT, Nat.reduceSub, Nat.reduceMod, Nat.reduceDiv, slot_neg, slot_pos, T.ag_3, T.ag_39, T.ag_4, T.ag_41, T.eb_22, T.eb_33, T.eb_38, T.es_22, T.es_37, T.es_38, T.es_39, T.ez_22, T.ez_33, T.ez_38, T.fo_41_0, T.fo_41_2, T.fo_41_4, T.fo_41_5, T.fo_41_6, T.fo_42_0, T.fo_42_1, T.gf_10, T.gf_11, T.gf_13, T.gf_14, T.gf_15, T.gf_8, T.gf_9, T.ib_26, T.ib_27, T.ib_3, T.ii_22, T.ii_26, T.ii_3, T.ii_33, T.ii_37, T.ii_38, T.ii_39, T.ip_26, T.ip_27, T.ip_3, T.pl_32, T.s8_22, T.s8_26, T.s8_3, T.s8_33, T.s8_37, T.s8_38, T.s8_39, T.sl_22, T.sl_26, T.sl_3, T.sl_33, T.sl_37, T.sl_38, T.sl_39, T.st_22, T.st_26, T.st_3, T.st_33, T.st_37, T.st_38, T.st_39, T.un_22, T.un_26, T.un_3, T.un_33, T.un_37, T.un_38, T.un_39, T.zo_32, T.zo_41, z0, z3, z4, z5, z6, z7, z9, z21, d1, d2, d3, hu5, hq5, hv5, c1, c2, c3, c4, hkl', w1, hK]
                have hb5 : off5 + nn.toNat < vs5.length := (List.getElem?_eq_some_iff.1 hv5).1
                have hnl : nn.toNat < (setAll told2 (l.take k)).length := by rw [htl]; omega
                have hset : setAll told2 (l.take (k + 1)) = (setAll told2 (l.take k)).set nn.toNat true := by
                  rw [take_next hxk]; unfold setAll; rw [List.foldl_append]; rfl
                have hRs := hR5.set hnl true
                have hvs : vs5.set (off5 + nn.toNat) (.bool true) = vs5.take (off5 + nn.toNat * boolE.k) ++ boolE.enc true ++ vs5.drop (off5 + nn.toNat * boolE.k + boolE.k) := by
                  rw [List.set_eq_take_append_cons_drop, if_pos hb5, hK, Nat.mul_one]; simp [boolE]
                refine ⟨hb5, ⟨k + 1, hkl, hU3.put (.inl (by rw [hDq5]; simp)), ?_, rfl⟩, by omega⟩
                rw [hset]
                refine .inr ⟨q5, off5, _, hDq5, hqn5, by rw [List.length_set, htl]; rfl, by rw [get_put, if_pos rfl], ?_⟩
                rw [hvs]; exact hRs
            · have hkl' : ((k : Int) < (l.length : Int)) = False := eq_false (by omega)
              obtain rfl : k = l.length := by omega
              rw [List.take_length] at hO3
              rw [e9] at z9
              simp (config := { dsimp := false, maxSteps := 10000000 }) (disch := omega) only [go_sem, reduceIte, Nat.reduceEqDiff, reduceCtorEq, Nat.reduceAdd, Nat.reduceMul, Int.reduceToNat, Int.reduceLE, Int.reduceLT, Int.reduceEq, Int.reduceNe, Nat.reduceLeDiff, Int.reducePow, Nat.reducePow, Nat.reduceLT, Nat.reduceSub, Nat.reduceMod, Nat.reduceDiv, slot_neg, slot_pos, T.ag_3, T.ag_39, T.ag_4, T.ag_41, T.eb_22, T.eb_33, T.eb_38, T.es_22, T.es_37, T.es_38, T.es_39, T.ez_22, T.ez_33, T.ez_38, T.fo_41_0, T.fo_41_2, T.fo_41_4, T.fo_41_5, T.fo_41_6, T.fo_42_0, T.fo_42_1, T.gf_10, T.gf_11, T.gf_13, T.gf_14, T.gf_15, T.gf_8, T.gf_9, T.ib_26, T.ib_27, T.ib_3, T.ii_22, T.ii_26, T.ii_3, T.ii_33, T.ii_37, T.ii_38, T.ii_39, T.ip_26, T.ip_27, T.ip_3, T.pl_32, T.s8_22, T.s8_26, T.s8_3, T.s8_33, T.s8_37, T.s8_38, T.s8_39, T.sl_22, T.sl_26, T.sl_3, T.sl_33, T.sl_37, T.sl_38, T.sl_39, T.st_22, T.st_26, T.st_3, T.st_33, T.st_37, T.st_38, T.st_39, T.un_22, T.un_26, T.un_3, T.un_33, T.un_37, T.un_38, T.un_39, T.zo_32, T.zo_41, z0, z3, z4, z5, z6, z7, z9, z21, hkl']
              exact ⟨hP.st.upd hU3 (fun h5 => (hP.apart.2 _ h5).1 rfl) (fun d hd h5 => (hP.apart.2 _ h5).2 hd), hP.sizes.upd hU3 (fun d hd => (hP.apart.1 d hd).2.2), hO3, htell, hP.new, hP.apart, hP.upd.trans hU3 (fun d hd => .inr (hP.new.2.2.2 d hd))⟩
        · rintro r3 H3 ⟨z0, z3, z6, z7, hOO⟩
          generalize htt : setAll told2 l = tt at *
          generalize w4e : r3 4 = w4 at *
          generalize w5e : r3 5 = w5 at *
          have hI := hOO.inv
          have hN4 := hOO.sizes.num
          obtain ⟨A4, st4, e4⟩ := hN4.len
          rw [List.length_map] at e4
          have hpart : ∀ k, 0 ≤ asum ((al2.take k).filter (untold tt)) ∧ asum ((al2.take k).filter (untold tt)) ≤ 65535 * 100000 := fun k => by
            have hsub : ∀ y ∈ (al2.take k).filter (untold tt), y ∈ s3.waits := fun y hy => by
              rw [hI.waits]; obtain ⟨a, b⟩ := List.mem_filter.1 hy
              exact List.mem_filter.2 ⟨List.mem_of_mem_take a, b⟩
            have h1 := asum_le _ fun y hy => ⟨by have := (hI.ok.pk y (hsub y hy)).1; omega, (hI.ok.pk y (hsub y hy)).2.1⟩
            have h2 := List.length_filter_le (untold tt) (al2.take k)
            have h3 : (al2.take k).length ≤ al2.length := by rw [List.length_take]; omega
            omega
          refine CodeH.seq' (CodeH.of_vc [] hm (okl hokb) ?_)
          replace hokb := okr hokb
          simp (config := { dsimp := false, maxSteps := 10000000 }) (disch := omega) only [go_sem, reduceIte, Nat.reduceEqDiff, reduceCtorEq, Nat.reduceAdd, Nat.reduceMul, Int.reduceToNat, Int.reduceLE, Int.reduceLT, Int.reduceEq, Int.reduceNe, Nat.reduceLeDiff, Int.reducePow, Nat.reducePow, Nat.reduceLT, Nat.reduceSub, Nat.reduceMod, Nat.reduceDiv, slot_neg, slot_pos, T.ag_3, T.ag_39, T.ag_4, T.ag_41, T.eb_22, T.eb_33, T.eb_38, T.es_22, T.es_37, T.es_38, T.es_39, T.ez_22, T.ez_33, T.ez_38, T.fo_41_0, T.fo_41_2, T.fo_41_4, T.fo_41_5, T.fo_41_6, T.fo_42_0, T.fo_42_1, T.gf_10, T.gf_11, T.gf_13, T.gf_14, T.gf_15, T.gf_8, T.gf_9, T.ib_26, T.ib_27, T.ib_3, T.ii_22, T.ii_26, T.ii_3, T.ii_33, T.ii_37, T.ii_38, T.ii_39, T.ip_26, T.ip_27, T.ip_3, T.pl_32, T.s8_22, T.s8_26, T.s8_3, T.s8_33, T.s8_37, T.s8_38, T.s8_39, T.sl_22, T.sl_26, T.sl_3, T.sl_33, T.sl_37, T.sl_38, T.sl_39, T.st_22, T.st_26, T.st_3, T.st_33, T.st_37, T.st_38, T.st_39, T.un_22, T.un_26, T.un_3, T.un_33, T.un_37, T.un_38, T.un_39, T.zo_32, T.zo_41]
          refine CodeH.seq (fun r4 H4 => H3 = H4 ∧ r4 0 = s0 ∧ r4 3 = .pointer (some ⟨p, 0, none⟩) ∧ r4 4 = w4 ∧ r4 5 = w5 ∧ r4 6 = .int .i64 now2 ∧ r4 7 = .int .i64 i ∧ r4 22 = .int .i64 s3.flight) (CodeH.of_vc [] hm (okl hokb) ?_) ?_
          · clear hokb hok
            simp (config := { dsimp := false, maxSteps := 10000000 }) (disch := omega) only [go_sem, reduceIte, Nat.reduceEqDiff, reduceCtorEq, Nat.reduceAdd, Nat.reduceMul, Int.reduceToNat, Int.reduceLE, Int.reduceLT, Int.reduceEq, Int.reduceNe, Nat.reduceLeDiff, Int.reducePow, Nat.reducePow, Nat.reduceLT, Nat.reduceSub, Nat.reduceMod, Nat.reduceDiv, slot_neg, slot_pos, T.ag_3, T.ag_39, T.ag_4, T.ag_41, T.eb_22, T.eb_33, T.eb_38, T.es_22, T.es_37, T.es_38, T.es_39, T.ez_22, T.ez_33, T.ez_38, T.fo_41_0, T.fo_41_2, T.fo_41_4, T.fo_41_5, T.fo_41_6, T.fo_42_0, T.fo_42_1, T.gf_10, T.gf_11, T.gf_13, T.gf_14, T.gf_15, T.gf_8, T.gf_9, T.ib_26, T.ib_27, T.ib_3, T.ii_22, T.ii_26, T.ii_3, T.ii_33, T.ii_37, T.ii_38, T.ii_39, T.ip_26, T.ip_27, T.ip_3, T.pl_32, T.s8_22, T.s8_26, T.s8_3, T.s8_33, T.s8_37, T.s8_38, T.s8_39, T.sl_22, T.sl_26, T.sl_3, T.sl_33, T.sl_37, T.sl_38, T.sl_39, T.st_22, T.st_26, T.st_3, T.st_33, T.st_37, T.st_38, T.st_39, T.un_22, T.un_26, T.un_3, T.un_33, T.un_37, T.un_38, T.un_39, T.zo_32, T.zo_41]
            refine loop_intro [] hm (fun r4 H4 => H3 = H4 ∧ ∃ k : Nat, k ≤ al2.length ∧ r4 0 = s0 ∧ r4 3 = .pointer (some ⟨p, 0, none⟩) ∧ r4 4 = w4 ∧ r4 5 = w5 ∧ r4 6 = .int .i64 now2 ∧ r4 7 = .int .i64 i ∧ r4 22 = .int .i64 (asum ((al2.take k).filter (untold tt))) ∧ r4 23 = .int .i64 k) (fun r4 _ => match r4 23 with | .int _ k => al2.length - k.toNat | _ => 0) ?_ ?_
            · exact ⟨rfl, 0, by omega, by simp [upd, z0], by simp [upd, z3], by simp [upd, w4e], by simp [upd, w5e], by simp [upd, z6], by simp [upd, z7], by simp [upd, asum], by simp [upd]⟩
            · rintro r4 H4 ⟨hH4, k, hk, y0, y3, y4, y5, y6, y7, y22, y23⟩
              subst hH4
              by_cases hkl : k < al2.length
              · have hkl' : ((k : Int) < (al2.length : Int)) = True := eq_true (by omega)
                have hxk : al2[k]? = some al2[k] := List.getElem?_eq_getElem hkl
                obtain ⟨qb, offb, wsb, ob, d1, d2, d3⟩ := hN4.at (i := k) (a := al2[k].size) (by rw [List.getElem?_map, hxk]; rfl)
                rw [List.length_map] at d1
                have hp1 := hI.part hxk
                have hpa := hpart k
                have hpb := hpart (k + 1)
                generalize al2[k] = y at hxk d3 hp1
                obtain ⟨b, htk⟩ : ∃ b, tt[k]? = some b := ⟨_, List.getElem?_eq_getElem (by rw [hI.len]; exact hkl)⟩
                have htl : tt.length = al2.length := hI.len
                rw [htk] at hp1
                rcases id hOO.tolds with ⟨_, hnil, _⟩ | ⟨q5, off5, vs5, hDq5, hqn5, hu5, hq5, hR5⟩
                · rw [hnil] at htl; simp at htl; omega
                · have ha5 := hR5.at htk
                  have hv5 : vs5[off5 + k]? = some (.bool b) := take_one (by have := ha5.1; simpa [boolE] using this)
                  rw [htl] at hu5
                  have w1 : IntKind.i64.wrap ((k : Int) + 1) = ((k + 1 : Nat) : Int) := by rw [i64wrap] <;> omega
                  have hK : boolE.k = 1 := rfl
                  cases b with
                  | true =>
                    simp (config := { dsimp := false, maxSteps := 10000000 }) (disch := omega) only [go_sem, reduceIte, Nat.reduceEqDiff, reduceCtorEq, Nat.reduceAdd, Nat.reduceMul, Int.reduceToNat, Int.reduceLE, Int.reduceLT, Int.reduceEq, Int.reduceNe, Nat.reduceLeDiff, Int.reducePow, Nat.reducePow, Nat.reduceLT, Nat.reduceSub, Nat.reduceMod, Nat.reduceDiv, slot_neg, slot_pos, T.ag_3, T.ag_39, T.ag_4, T.ag_41, T.eb_22, T.eb_33, T.eb_38, T.es_22, T.es_37, T.es_38, T.es_39, T.ez_22, T.ez_33, T.ez_38, T.fo_41_0, T.fo_41_2, T.fo_41_4, T.fo_41_5, T.fo_41_6, T.fo_42_0, T.fo_42_1, T.gf_10, T.gf_11, T.gf_13, T.gf_14, T.gf_15, T.gf_8, T.gf_9, T.ib_26, T.ib_27, T.ib_3, T.ii_22, T.ii_26, T.ii_3, T.ii_33, T.ii_37, T.ii_38, T.ii_39, T.ip_26, T.ip_27, T.ip_3, T.pl_32, T.s8_22, T.s8_26, T.s8_3, T.s8_33, T.s8_37, T.s8_38, T.s8_39, T.sl_22, T.sl_26, T.sl_3, T.sl_33, T.sl_37, T.sl_38, T.sl_39, T.st_22, T.st_26, T.st_3, T.st_33, T.st_37, T.st_38, T.st_39, T.un_22, T.un_26, T.un_3, T.un_33, T.un_37, T.un_38, T.un_39, T.zo_32, T.zo_41, y0, y3, y4, y5, y6, y7, y22, y23, d1, d2, d3, hu5, hq5, hv5, hkl', w1, hK]
                    exact ⟨⟨k + 1, hkl, by rw [hp1]; simp, rfl⟩, by omega⟩
                  | false =>
                    have w2 : IntKind.i64.wrap (asum ((al2.take k).filter (untold tt)) + y.size) = asum ((al2.take (k + 1)).filter (untold tt)) := by
                      rw [hp1] at hpb ⊢
                      simp only [Option.getD_some, Bool.false_eq_true, if_false] at hpb ⊢
                      exact i64wrap (by omega) (by omega)
                    simp (config := { dsimp := false, maxSteps := 10000000 }) (disch := omega) only [go_sem, reduceIte, Nat.reduceEqDiff, reduceCtorEq, Nat.reduceAdd, Nat.reduceMul, Int.reduceToNat, Int.reduceLE, Int.reduceLT, Int.reduceEq, Int.reduceNe, Nat.reduceLeDiff, Int.reducePow, Nat.reducePow, Nat.reduceLT, Nat.reduceSub, Nat.reduceMod, Nat.reduceDiv, slot_neg, slot_pos, T.ag_3, T.ag_39, T.ag_4, T.ag_41, T.eb_22, T.eb_33, T.eb_38, T.es_22, T.es_37, T.es_38, T.es_39, T.ez_22, T.ez_33, T.ez_38, T.fo_41_0, T.fo_41_2, T.fo_41_4, T.fo_41_5, T.fo_41_6, T.fo_42_0, T.fo_42_1, T.gf_10, T.gf_11, T.gf_13, T.gf_14, T.gf_15, T.gf_8, T.gf_9, T.ib_26, T.ib_27, T.ib_3, T.ii_22, T.ii_26, T.ii_3, T.ii_33, T.ii_37, T.ii_38, T.ii_39, T.ip_26, T.ip_27, T.ip_3, T.pl_32, T.s8_22, T.s8_26, T.s8_3, T.s8_33, T.s8_37, T.s8_38, T.s8_39, T.sl_22, T.sl_26, T.sl_3, T.sl_33, T.sl_37, T.sl_38, T.sl_39, T.st_22, T.st_26, T.st_3, T.st_33, T.st_37, T.st_38, T.st_39, T.un_22, T.un_26, T.un_3, T.un_33, T.un_37, T.un_38, T.un_39, T.zo_32, T.zo_41, y0, y3, y4, y5, y6, y7, y22, y23, d1, d2, d3, hu5, hq5, hv5, hkl', w1, hK, w2]
                    exact ⟨⟨k + 1, hkl, rfl, rfl⟩, by omega⟩
              · have hkl' : ((k : Int) < (al2.length : Int)) = False := eq_false (by omega)
                obtain rfl : k = al2.length := by omega
                rw [List.take_length, ← hI.flight] at y22
                rw [e4] at y4
                simp (config := { dsimp := false, maxSteps := 10000000 }) (disch := omega) only [go_sem, reduceIte, Nat.reduceEqDiff, reduceCtorEq, Nat.reduceAdd, Nat.reduceMul, Int.reduceToNat, Int.reduceLE, Int.reduceLT, Int.reduceEq, Int.reduceNe, Nat.reduceLeDiff, Int.reducePow, Nat.reducePow, Nat.reduceLT, Nat.reduceSub, Nat.reduceMod, Nat.reduceDiv, slot_neg, slot_pos, T.ag_3, T.ag_39, T.ag_4, T.ag_41, T.eb_22, T.eb_33, T.eb_38, T.es_22, T.es_37, T.es_38, T.es_39, T.ez_22, T.ez_33, T.ez_38, T.fo_41_0, T.fo_41_2, T.fo_41_4, T.fo_41_5, T.fo_41_6, T.fo_42_0, T.fo_42_1, T.gf_10, T.gf_11, T.gf_13, T.gf_14, T.gf_15, T.gf_8, T.gf_9, T.ib_26, T.ib_27, T.ib_3, T.ii_22, T.ii_26, T.ii_3, T.ii_33, T.ii_37, T.ii_38, T.ii_39, T.ip_26, T.ip_27, T.ip_3, T.pl_32, T.s8_22, T.s8_26, T.s8_3, T.s8_33, T.s8_37, T.s8_38, T.s8_39, T.sl_22, T.sl_26, T.sl_3, T.sl_33, T.sl_37, T.sl_38, T.sl_39, T.st_22, T.st_26, T.st_3, T.st_33, T.st_37, T.st_38, T.st_39, T.un_22, T.un_26, T.un_3, T.un_33, T.un_37, T.un_38, T.un_39, T.zo_32, T.zo_41, y0, y3, y4, y5, y6, y7, y22, y23, hkl']
                exact e4.symm
          · rintro r4 H4 ⟨hH4, y0, y3, y4, y5, y6, y7, y22⟩
            subst hH4
            replace hokb := okr hokb
            have hwin := hI.ok.window
            have c1 : (s3.window < 2400) = False := eq_false (by omega)
            refine CodeH.of_vc [] hm hokb ?_
            simp (config := { dsimp := false, maxSteps := 10000000 }) (disch := omega) only [go_sem, reduceIte, Nat.reduceEqDiff, reduceCtorEq, Nat.reduceAdd, Nat.reduceMul, Int.reduceToNat, Int.reduceLE, Int.reduceLT, Int.reduceEq, Int.reduceNe, Nat.reduceLeDiff, Int.reducePow, Nat.reducePow, Nat.reduceLT, Nat.reduceSub, Nat.reduceMod, Nat.reduceDiv, slot_neg, slot_pos, T.ag_3, T.ag_39, T.ag_4, T.ag_41, T.eb_22, T.eb_33, T.eb_38, T.es_22, T.es_37, T.es_38, T.es_39, T.ez_22, T.ez_33, T.ez_38, T.fo_41_0, T.fo_41_2, T.fo_41_4, T.fo_41_5, T.fo_41_6, T.fo_42_0, T.fo_42_1, T.gf_10, T.gf_11, T.gf_13, T.gf_14, T.gf_15, T.gf_8, T.gf_9, T.ib_26, T.ib_27, T.ib_3, T.ii_22, T.ii_26, T.ii_3, T.ii_33, T.ii_37, T.ii_38, T.ii_39, T.ip_26, T.ip_27, T.ip_3, T.pl_32, T.s8_22, T.s8_26, T.s8_3, T.s8_33, T.s8_37, T.s8_38, T.s8_39, T.sl_22, T.sl_26, T.sl_3, T.sl_33, T.sl_37, T.sl_38, T.sl_39, T.st_22, T.st_26, T.st_3, T.st_33, T.st_37, T.st_38, T.st_39, T.un_22, T.un_26, T.un_3, T.un_33, T.un_37, T.un_38, T.un_39, T.zo_32, T.zo_41, y3]
            refine CallsH.pure _ rfl (Flight_ph _ p s3 hOO.st.view.ro) ?_
            simp (config := { dsimp := false, maxSteps := 10000000 }) (disch := omega) only [go_sem, reduceIte, Nat.reduceEqDiff, reduceCtorEq, Nat.reduceAdd, Nat.reduceMul, Int.reduceToNat, Int.reduceLE, Int.reduceLT, Int.reduceEq, Int.reduceNe, Nat.reduceLeDiff, Int.reducePow, Nat.reducePow, Nat.reduceLT, Nat.reduceSub, Nat.reduceMod, Nat.reduceDiv, slot_neg, slot_pos, T.ag_3, T.ag_39, T.ag_4, T.ag_41, T.eb_22, T.eb_33, T.eb_38, T.es_22, T.es_37, T.es_38, T.es_39, T.ez_22, T.ez_33, T.ez_38, T.fo_41_0, T.fo_41_2, T.fo_41_4, T.fo_41_5, T.fo_41_6, T.fo_42_0, T.fo_42_1, T.gf_10, T.gf_11, T.gf_13, T.gf_14, T.gf_15, T.gf_8, T.gf_9, T.ib_26, T.ib_27, T.ib_3, T.ii_22, T.ii_26, T.ii_3, T.ii_33, T.ii_37, T.ii_38, T.ii_39, T.ip_26, T.ip_27, T.ip_3, T.pl_32, T.s8_22, T.s8_26, T.s8_3, T.s8_33, T.s8_37, T.s8_38, T.s8_39, T.sl_22, T.sl_26, T.sl_3, T.sl_33, T.sl_37, T.sl_38, T.sl_39, T.st_22, T.st_26, T.st_3, T.st_33, T.st_37, T.st_38, T.st_39, T.un_22, T.un_26, T.un_3, T.un_33, T.un_37, T.un_38, T.un_39, T.zo_32, T.zo_41, y3, y22]
            refine CallsH.pure _ rfl (Window_ph _ p s3 hOO.st.view.ro) ?_
            simp (config := { dsimp := false, maxSteps := 10000000 }) (disch := omega) only [go_sem, reduceIte, Nat.reduceEqDiff, reduceCtorEq, Nat.reduceAdd, Nat.reduceMul, Int.reduceToNat, Int.reduceLE, Int.reduceLT, Int.reduceEq, Int.reduceNe, Nat.reduceLeDiff, Int.reducePow, Nat.reducePow, Nat.reduceLT, Nat.reduceSub, Nat.reduceMod, Nat.reduceDiv, slot_neg, slot_pos, T.ag_3, T.ag_39, T.ag_4, T.ag_41, T.eb_22, T.eb_33, T.eb_38, T.es_22, T.es_37, T.es_38, T.es_39, T.ez_22, T.ez_33, T.ez_38, T.fo_41_0, T.fo_41_2, T.fo_41_4, T.fo_41_5, T.fo_41_6, T.fo_42_0, T.fo_42_1, T.gf_10, T.gf_11, T.gf_13, T.gf_14, T.gf_15, T.gf_8, T.gf_9, T.ib_26, T.ib_27, T.ib_3, T.ii_22, T.ii_26, T.ii_3, T.ii_33, T.ii_37, T.ii_38, T.ii_39, T.ip_26, T.ip_27, T.ip_3, T.pl_32, T.s8_22, T.s8_26, T.s8_3, T.s8_33, T.s8_37, T.s8_38, T.s8_39, T.sl_22, T.sl_26, T.sl_3, T.sl_33, T.sl_37, T.sl_38, T.sl_39, T.st_22, T.st_26, T.st_3, T.st_33, T.st_37, T.st_38, T.st_39, T.un_22, T.un_26, T.un_3, T.un_33, T.un_37, T.un_38, T.un_39, T.zo_32, T.zo_41, c1, y7]
            have wi : IntKind.i64.wrap ((i : Int) + 1) = ((i + 1 : Nat) : Int) := by rw [i64wrap] <;> omega
            refine CodeH.of_vc [] hm hok ?_
            simp (config := { dsimp := false, maxSteps := 10000000 }) (disch := omega) only [go_sem, reduceIte, Nat.reduceEqDiff, reduceCtorEq, Nat.reduceAdd, Nat.reduceMul, Int.reduceToNat, Int.reduceLE, Int.reduceLT, Int.reduceEq, Int.reduceNe, Nat.reduceLeDiff, Int.reducePow, Nat.reducePow, Nat.reduceLT, Nat.reduceSub, Nat.reduceMod, Nat.reduceDiv, slot_neg, slot_pos, T.ag_3, T.ag_39, T.ag_4, T.ag_41, T.eb_22, T.eb_33, T.eb_38, T.es_22, T.es_37, T.es_38, T.es_39, T.ez_22, T.ez_33, T.ez_38, T.fo_41_0, T.fo_41_2, T.fo_41_4, T.fo_41_5, T.fo_41_6, T.fo_42_0, T.fo_42_1, T.gf_10, T.gf_11, T.gf_13, T.gf_14, T.gf_15, T.gf_8, T.gf_9, T.ib_26, T.ib_27, T.ib_3, T.ii_22, T.ii_26, T.ii_3, T.ii_33, T.ii_37, T.ii_38, T.ii_39, T.ip_26, T.ip_27, T.ip_3, T.pl_32, T.s8_22, T.s8_26, T.s8_3, T.s8_33, T.s8_37, T.s8_38, T.s8_39, T.sl_22, T.sl_26, T.sl_3, T.sl_33, T.sl_37, T.sl_38, T.sl_39, T.st_22, T.st_26, T.st_3, T.st_33, T.st_37, T.st_38, T.st_39, T.un_22, T.un_26, T.un_3, T.un_33, T.un_37, T.un_38, T.un_39, T.zo_32, T.zo_41, y0, y3, y4, y5, y6, y7, q7, wi]
            exact ⟨⟨i + 1, al2, tt, s3, now2, p, E, E4, E5, by omega, by omega, ha2, hOO, hn3, by omega, hnw.2, e0, rfl, rfl, rfl⟩, by omega⟩
    · refine CodeH.seq' (CodeH.of_vc [] hm (okl hok) ?_)
      replace hok := okr hok
      by_cases h1 : i < le.length
      · have hlt' : ((i : Int) < (le.length : Int)) = True := eq_true (by omega)
        have h80 : ((i : Int) < 80) = False := eq_false (by omega)
        simp (config := { dsimp := false, maxSteps := 10000000 }) (disch := omega) only [go_sem, reduceIte, Nat.reduceEqDiff, reduceCtorEq, Nat.reduceAdd, Nat.reduceMul, Int.reduceToNat, Int.reduceLE, Int.reduceLT, Int.reduceEq, Int.reduceNe, Nat.reduceLeDiff, Int.reducePow, Nat.reducePow, Nat.reduceLT, Nat.reduceSub, Nat.reduceMod, Nat.reduceDiv, slot_neg, slot_pos, T.ag_3, T.ag_39, T.ag_4, T.ag_41, T.eb_22, T.eb_33, T.eb_38, T.es_22, T.es_37, T.es_38, T.es_39, T.ez_22, T.ez_33, T.ez_38, T.fo_41_0, T.fo_41_2, T.fo_41_4, T.fo_41_5, T.fo_41_6, T.fo_42_0, T.fo_42_1, T.gf_10, T.gf_11, T.gf_13, T.gf_14, T.gf_15, T.gf_8, T.gf_9, T.ib_26, T.ib_27, T.ib_3, T.ii_22, T.ii_26, T.ii_3, T.ii_33, T.ii_37, T.ii_38, T.ii_39, T.ip_26, T.ip_27, T.ip_3, T.pl_32, T.s8_22, T.s8_26, T.s8_3, T.s8_33, T.s8_37, T.s8_38, T.s8_39, T.sl_22, T.sl_26, T.sl_3, T.sl_33, T.sl_37, T.sl_38, T.sl_39, T.st_22, T.st_26, T.st_3, T.st_33, T.st_37, T.st_38, T.st_39, T.un_22, T.un_26, T.un_3, T.un_33, T.un_37, T.un_38, T.un_39, T.zo_32, T.zo_41, q0, q7, e0, hlt', h80]
        (refine CodeH.of_vc [] hm (by kernel_rfl) ?_; simp (config := { dsimp := false, maxSteps := 10000000 }) (disch := omega) only [go_sem, reduceIte, Nat.reduceEqDiff, reduceCtorEq, Nat.reduceAdd, Nat.reduceMul, Int.reduceToNat, Int.reduceLE, Int.reduceLT, Int.reduceEq, Int.reduceNe, Nat.reduceLeDiff, Int.reducePow, Nat.reducePow, Nat.reduceLT, Nat.reduceSub, Nat.reduceMod, Nat.reduceDiv, slot_neg, slot_pos, T.ag_3, T.ag_39, T.ag_4, T.ag_41, T.eb_22, T.eb_33, T.eb_38, T.es_22, T.es_37, T.es_38, T.es_39, T.ez_22, T.ez_33, T.ez_38, T.fo_41_0, T.fo_41_2, T.fo_41_4, T.fo_41_5, T.fo_41_6, T.fo_42_0, T.fo_42_1, T.gf_10, T.gf_11, T.gf_13, T.gf_14, T.gf_15, T.gf_8, T.gf_9, T.ib_26, T.ib_27, T.ib_3, T.ii_22, T.ii_26, T.ii_3, T.ii_33, T.ii_37, T.ii_38, T.ii_39, T.ip_26, T.ip_27, T.ip_3, T.pl_32, T.s8_22, T.s8_26, T.s8_3, T.s8_33, T.s8_37, T.s8_38, T.s8_39, T.sl_22, T.sl_26, T.sl_3, T.sl_33, T.sl_37, T.sl_38, T.sl_39, T.st_22, T.st_26, T.st_3, T.st_33, T.st_37, T.st_38, T.st_39, T.un_22, T.un_26, T.un_3, T.un_33, T.un_37, T.un_38, T.un_39, T.zo_32, T.zo_41, init_a])
      · have hlt' : ((i : Int) < (le.length : Int)) = False := eq_false (by omega)
        simp (config := { dsimp := false, maxSteps := 10000000 }) (disch := omega) only [go_sem, reduceIte, Nat.reduceEqDiff, reduceCtorEq, Nat.reduceAdd, Nat.reduceMul, Int.reduceToNat, Int.reduceLE, Int.reduceLT, Int.reduceEq, Int.reduceNe, Nat.reduceLeDiff, Int.reducePow, Nat.reducePow, Nat.reduceLT, Nat.reduceSub, Nat.reduceMod, Nat.reduceDiv, slot_neg, slot_pos, T.ag_3, T.ag_39, T.ag_4, T.ag_41, T.eb_22, T.eb_33, T.eb_38, T.es_22, T.es_37, T.es_38, T.es_39, T.ez_22, T.ez_33, T.ez_38, T.fo_41_0, T.fo_41_2, T.fo_41_4, T.fo_41_5, T.fo_41_6, T.fo_42_0, T.fo_42_1, T.gf_10, T.gf_11, T.gf_13, T.gf_14, T.gf_15, T.gf_8, T.gf_9, T.ib_26, T.ib_27, T.ib_3, T.ii_22, T.ii_26, T.ii_3, T.ii_33, T.ii_37, T.ii_38, T.ii_39, T.ip_26, T.ip_27, T.ip_3, T.pl_32, T.s8_22, T.s8_26, T.s8_3, T.s8_33, T.s8_37, T.s8_38, T.s8_39, T.sl_22, T.sl_26, T.sl_3, T.sl_33, T.sl_37, T.sl_38, T.sl_39, T.st_22, T.st_26, T.st_3, T.st_33, T.st_37, T.st_38, T.st_39, T.un_22, T.un_26, T.un_3, T.un_33, T.un_37, T.un_38, T.un_39, T.zo_32, T.zo_41, q0, q7, e0, hlt']
        (refine CodeH.of_vc [] hm (by kernel_rfl) ?_; simp (config := { dsimp := false, maxSteps := 10000000 }) (disch := omega) only [go_sem, reduceIte, Nat.reduceEqDiff, reduceCtorEq, Nat.reduceAdd, Nat.reduceMul, Int.reduceToNat, Int.reduceLE, Int.reduceLT, Int.reduceEq, Int.reduceNe, Nat.reduceLeDiff, Int.reducePow, Nat.reducePow, Nat.reduceLT, Nat.reduceSub, Nat.reduceMod, Nat.reduceDiv, slot_neg, slot_pos, T.ag_3, T.ag_39, T.ag_4, T.ag_41, T.eb_22, T.eb_33, T.eb_38, T.es_22, T.es_37, T.es_38, T.es_39, T.ez_22, T.ez_33, T.ez_38, T.fo_41_0, T.fo_41_2, T.fo_41_4, T.fo_41_5, T.fo_41_6, T.fo_42_0, T.fo_42_1, T.gf_10, T.gf_11, T.gf_13, T.gf_14, T.gf_15, T.gf_8, T.gf_9, T.ib_26, T.ib_27, T.ib_3, T.ii_22, T.ii_26, T.ii_3, T.ii_33, T.ii_37, T.ii_38, T.ii_39, T.ip_26, T.ip_27, T.ip_3, T.pl_32, T.s8_22, T.s8_26, T.s8_3, T.s8_33, T.s8_37, T.s8_38, T.s8_39, T.sl_22, T.sl_26, T.sl_3, T.sl_33, T.sl_37, T.sl_38, T.sl_39, T.st_22, T.st_26, T.st_3, T.st_33, T.st_37, T.st_38, T.st_39, T.un_22, T.un_26, T.un_3, T.un_33, T.un_37, T.un_38, T.un_39, T.zo_32, T.zo_41, init_a])
end Ph
