import Derived.Test.YtbmmgibeidjgfaaDoorV4
set_option maxRecDepth 100000
set_option maxHeartbeats 4000000
set_option linter.unusedSimpArgs false
set_option linter.unusedVariables false
namespace Ph
open Go Go.Proofs
attribute [local irreducible] Value.cells
attribute [local go_sem ↓] y_move y_assign y_pick y_nil y_bin y_un y_fa y_field y_ext y_ia y_ix y_slice y_build y_mf y_load y_len y_min y_max y_conv y_bs y_mk y_alloc y_box y_store y_clear y_app y_callf y_callt s_move s_assign s_pick s_nil s_bin s_un s_fa s_field s_ext s_ia s_ix s_slice s_conv s_build s_bs s_mf s_alloc s_box s_load s_store s_len s_clear s_min s_max s_app s_call q_call q_move q_assign q_pick q_nil q_bin q_un q_fa q_field q_ext q_ia q_ix q_slice q_conv q_build q_mf q_load q_len q_min q_max l_nil l_move l_assign l_pick l_nilc l_bin l_un l_fa l_field l_ext l_ia l_ix l_slice l_conv l_build l_mf l_load l_len l_min l_max l_call put_eq putN_eq o_nil o_plain o_gate v_nil v_plain v_gate vc_skip vc_region vc_seq vc_cond vc_block vc_loop vc_rf vc_exit vc_ret blk_normal blk_ret blk_exit on_normal on_ret on_exit vc_drawn draw_q s_mk l_bs l_mk l_alloc l_box l_store l_app l_clear pl_done pl_takeS pl_take pl_alt pl_stop one_plain one_gate
attribute [local go_sem] clear_nil clear_sl onAgg_a onTuple_t onFn_f onFn_y onFunc_f c_int c_nil c_sl c_str sl_sl sl_nil sl_str ix_str ix_agg n_nil n_sl n_str app_eq k_nil k_sl len_sl len_str upd_some upd_none ev_tmp ev_const ev_func rd_some gdst_eq otmp_t otmp_c get_put get_alloc next_put next_alloc get_app next_app init_a resV1 resV2 onPtr_ptr onBool_b onInt_i onSlice_s onSome_s onCells_c lett_eq gate_tt gate_tf gate_ff gate_ft gate_dt gate_df also_eq bin un minmax io_none io_some bo_none bo_some partOf List.getElem?_cons_zero List.getElem?_cons_succ List.getElem?_toArray Option.map_some Option.map_none Option.bind_some ne_eq not_true_eq_false not_false_eq_true false_implies true_implies and_true true_and and_self Bool.false_eq_true Nat.zero_add Nat.add_zero List.size_toArray List.length_cons List.length_nil List.map_toArray List.map_cons List.map_nil Array.getD_eq_getD_getElem? Option.getD_some Bool.not_true Bool.not_false Bool.not_eq_true Option.isNone_some Option.isNone_none List.append_toArray List.append_nil List.nil_append List.cons_append decide_true decide_false in_nil in_cons Bool.and_false Bool.and_true Bool.or_false Bool.true_or Bool.false_or get_mask next_mask get_unmask next_unmask ac_move ac_assign ac_pick ac_nil ac_bin ac_un ac_fa ac_field ac_ext ac_ia ac_ix ac_slice ac_build ac_mf ac_call ac_load ac_conv accP_p accS_s accS_n accS_i accS_t fixed_ro fixed_lock fixed_own get_ro next_ro lock_live' lock_cells List.mem_cons List.not_mem_nil or_false false_or or_true true_or and_false false_and IntKind.bits Int.natCast_zero Int.natCast_one size_str data_str list_str mk_str ext_str app_str bytes_str w_byte w_byteu Int.toNat_natCast Int.toNat_zero Int.toNat_one Nat.sub_zero ge_iff_le gt_iff_lt Nat.le_refl Int.le_refl List.drop_zero Int.ofNat_eq_natCast Int.natCast_nonneg Int.sub_zero oc_int oc_bool oc_str oc_ptr oc_sl oc_map oc_func List.set_cons_zero List.set_cons_succ Nat.mul_one List.all_cons List.all_nil Bool.and_self res_nil res_tmp res_cell tup_one tup_two tup_nil fill_nil repl_zero cells_agg List.append_eq List.toList_toArray Nat.zero_mul Nat.one_mul repl_one repl_two onSome_build fill_cons onSome_lit splice_eq cells_int cells_bool cells_str cells_ptr cells_sl cells_map cells_func loadK_n loadK_s load_k storeK_n storeK_s store_k all_arr List.take_zero List.take_succ_cons List.drop_succ_cons List.take_nil List.drop_nil lk_own lk_ro lk_lock lk_lk fixed_lk gate_nt gate_nf gate3_b gate3_u undef Bool.true_and Bool.false_and nx_l nx_r nx_lt put_put resV0
theorem minl (a b : Int) : (if b < a then b else a) = min a b := by rw [Int.min_def]; split <;> split <;> omega
theorem take_one {vs : List Value} {n : Nat} {x : Value} (h : List.take 1 (List.drop n vs) = [x]) : vs[n]? = some x := by
  have h2 := congrArg (fun l => l[0]?) h
  simp only [List.getElem?_cons_zero] at h2
  rw [List.getElem?_take_of_lt (by omega), List.getElem?_drop] at h2
  simpa using h2
def intE : Enc Int := ⟨1, fun n => [.int .i64 n], fun _ => rfl, fun _ => rfl⟩
theorem slr_nat {h : Heap} {v : Value} {l : List Int} (hs : SlR (Rd.int .u64) h v l) (hp : ∀ x ∈ l, 0 ≤ x) : RowIn nE h v (l.map Int.toNat) ∧ ∀ A n st, v = .slice (some A) n st → A.block < h.next := by
  rcases hs with ⟨rfl, rfl⟩ | ⟨i, cells, rfl, h2, h3, h4, h5⟩
  · exact ⟨.inl ⟨rfl, rfl⟩, fun A n st e => by cases e⟩
  · refine ⟨.inr ⟨i, 0, cells, .ro, by rw [List.length_map]; rfl, h3, ?_⟩, fun A n st e => by cases e; exact h2⟩
    have e1 : (Rd.int .u64).sz = 1 := rfl
    rw [e1, Nat.mul_one] at h4
    refine ⟨by rw [show nE.k = 1 from rfl, List.length_map]; omega, ?_⟩
    rw [show nE.k = 1 from rfl, Nat.mul_one, List.drop_zero, List.length_map, ← h4, List.take_length]
    apply List.ext_getElem?
    intro k
    have ef : ∀ m : List Nat, nE.flat m = m.map fun n : Nat => Value.int .u64 (n : Int) := fun m => by
      induction m with
      | nil => rfl
      | cons x m ih => rw [show nE.flat (x :: m) = [.int .u64 (x : Int)] ++ nE.flat m from by simp [Enc.flat, nE], ih]; rfl
    rw [ef, List.getElem?_map, List.getElem?_map]
    cases hx : l[k]? with
    | none =>
      rw [List.getElem?_eq_none_iff] at hx
      rw [List.getElem?_eq_none (by omega)]; rfl
    | some x =>
      have := h5 k x hx
      rw [e1, Nat.mul_one] at this
      have h9 := hp x (List.mem_of_getElem? hx)
      rw [take_one this]
      simp only [Option.map_some]
      rw [Int.toNat_of_nonneg h9]
theorem RowIn.low {α : Type} {E : Enc α} {h : Heap} {v : Value} {l : List α} (hr : RowIn E h v l) (n : Nat) (hn : l.length ≤ n) : l.take n = l := List.take_of_length_le hn
theorem vlqLists_ph (h : Heap) (l0 : (List Int)) (s0 : Value) (hs0 : SlR (Rd.int .u64) h s0 l0) (wf0 : (l0.length ≤ maxLen ∧ ∀ x ∈ l0, (Lit.int .u64 x).wf = true)) :
    @CallsH Tryd.prog 3 #[s0] h ⟨fun u _ => u = .bool true⟩ := by
  have hpos : ∀ x ∈ l0, 0 ≤ x ∧ x < 18446744073709551616 := fun x hx => by
    have := wf0.2 x hx
    simp [Lit.wf, IntKind.min, IntKind.max, IntKind.signed, IntKind.bits] at this
    omega
  obtain ⟨hr0, hlt0⟩ := slr_nat hs0 fun x hx => (hpos x hx).1
  have hsm0 : ∀ n ∈ l0.map Int.toNat, n < 18446744073709551616 := fun n hn => by
    obtain ⟨x, hx, e⟩ := List.mem_map.1 hn
    have := hpos x hx
    omega
  generalize l0.map Int.toNat = N at hr0 hsm0
  have h1 := hr0.one
  (refine calls_of_codeR (rs := [.cell 2 4]) Tryd.func3 rfl rfl (by simp) ?_)
  (refine CodeH.seq' (CodeH.of_vc [] hm (by kernel_rfl) ?_); simp (config := { dsimp := false, maxSteps := 10000000 }) (disch := omega) only [go_sem, reduceIte, Nat.reduceEqDiff, reduceCtorEq, Nat.reduceAdd, Nat.reduceMul, Int.reduceToNat, Int.reduceLE, Int.reduceLT, Int.reduceEq, Int.reduceNe, Nat.reduceLeDiff, Int.reducePow, Nat.reducePow, Nat.reduceLT, Nat.reduceSub, Nat.reduceMod, Nat.reduceDiv, slot_neg, slot_pos, T.ag_22, T.ag_27, T.ag_3, T.ag_31, T.ag_4, T.eb_31, T.es_22, T.es_31, T.ez_31, T.gf_4, T.gf_5, T.gf_6, T.gf_7, T.gf_8, T.ib_24, T.ib_27, T.ib_3, T.ib_9, T.ii_22, T.ii_23, T.ii_31, T.ii_9, T.ip_24, T.ip_27, T.ip_3, T.ip_9, T.s8_22, T.s8_23, T.s8_31, T.s8_9, T.sl_22, T.sl_23, T.sl_31, T.sl_9, T.st_22, T.st_23, T.st_31, T.st_9, T.un_22, T.un_23, T.un_31, T.un_9, T.zo_3, T.zo_31, T.zo_4, init_a, h1.1, h1.2])
  refine CodeH.seq (fun r H => ∃ (w : Value) (ns : List Nat), H.next = h.next + 2 ∧ Upd h H [] ∧ H.get h.next = .live (.cells [w] .own) ∧ H.get (h.next + 1) = .live (.cells [.bool false] .own) ∧ RowIn nE h w ns ∧ (∀ A n st, w = .slice (some A) n st → A.block < h.next) ∧ ns.length ≤ 60 ∧ (∀ n ∈ ns, n < 18446744073709551616) ∧ r 1 = .pointer (some ⟨h.next, 0, none⟩) ∧ r 2 = .pointer (some ⟨h.next + 1, 0, none⟩)) ?_ ?_
  · rcases hr0 with ⟨e, hnil⟩ | ⟨q, off, vs, o, e, hq, hR⟩
    · subst e
      (refine CodeH.of_vc [] hm (by kernel_rfl) ?_; simp (config := { dsimp := false, maxSteps := 10000000 }) (disch := omega) only [go_sem, reduceIte, Nat.reduceEqDiff, reduceCtorEq, Nat.reduceAdd, Nat.reduceMul, Int.reduceToNat, Int.reduceLE, Int.reduceLT, Int.reduceEq, Int.reduceNe, Nat.reduceLeDiff, Int.reducePow, Nat.reducePow, Nat.reduceLT, Nat.reduceSub, Nat.reduceMod, Nat.reduceDiv, slot_neg, slot_pos, T.ag_22, T.ag_27, T.ag_3, T.ag_31, T.ag_4, T.eb_31, T.es_22, T.es_31, T.ez_31, T.gf_4, T.gf_5, T.gf_6, T.gf_7, T.gf_8, T.ib_24, T.ib_27, T.ib_3, T.ib_9, T.ii_22, T.ii_23, T.ii_31, T.ii_9, T.ip_24, T.ip_27, T.ip_3, T.ip_9, T.s8_22, T.s8_23, T.s8_31, T.s8_9, T.sl_22, T.sl_23, T.sl_31, T.sl_9, T.st_22, T.st_23, T.st_31, T.st_9, T.un_22, T.un_23, T.un_31, T.un_9, T.zo_3, T.zo_31, T.zo_4, init_a])
      exact ⟨_, [], (((Upd.alloc _ _ _).allocs).put (.inr (Nat.le_refl _))), rfl, .inl ⟨rfl, rfl⟩, (fun A n st e => by cases e), by simp, by simp⟩
    · subst e
      have hK : nE.k = 1 := rfl
      (refine CodeH.of_vc [] hm (by kernel_rfl) ?_; simp (config := { dsimp := false, maxSteps := 10000000 }) (disch := omega) only [go_sem, reduceIte, Nat.reduceEqDiff, reduceCtorEq, Nat.reduceAdd, Nat.reduceMul, Int.reduceToNat, Int.reduceLE, Int.reduceLT, Int.reduceEq, Int.reduceNe, Nat.reduceLeDiff, Int.reducePow, Nat.reducePow, Nat.reduceLT, Nat.reduceSub, Nat.reduceMod, Nat.reduceDiv, slot_neg, slot_pos, T.ag_22, T.ag_27, T.ag_3, T.ag_31, T.ag_4, T.eb_31, T.es_22, T.es_31, T.ez_31, T.gf_4, T.gf_5, T.gf_6, T.gf_7, T.gf_8, T.ib_24, T.ib_27, T.ib_3, T.ib_9, T.ii_22, T.ii_23, T.ii_31, T.ii_9, T.ip_24, T.ip_27, T.ip_3, T.ip_9, T.s8_22, T.s8_23, T.s8_31, T.s8_9, T.sl_22, T.sl_23, T.sl_31, T.sl_9, T.st_22, T.st_23, T.st_31, T.st_9, T.un_22, T.un_23, T.un_31, T.un_9, T.zo_3, T.zo_31, T.zo_4, init_a, hK, minl])
      have hmt : (min (N.length : Int) 60).toNat = min N.length 60 := by omega
      rw [hmt]
      refine ⟨⟨by omega, by omega⟩, _, N.take 60, (((Upd.alloc _ _ _).allocs).put (.inr (Nat.le_refl _))), rfl, .inr ⟨q, off, vs, o, by rw [List.length_take, Nat.min_comm]; rfl, hq, ?_⟩, (fun A n st e => by cases e; exact hlt0 _ _ _ rfl), by rw [List.length_take]; omega, fun n hn => hsm0 n (List.mem_of_mem_take hn)⟩
      by_cases h20 : 60 ≤ N.length
      · exact hR.take 60 h20
      · rw [List.take_of_length_le (by omega)]; exact hR
  rintro r H ⟨w, ns, hHn, hU, g1, g2, hr, hlt, hlen, hsm, q1, q2⟩
  have hrH : RowIn nE H w ns := hr.upd fun A n st e => hU.2 _ (hlt A n st e) (by simp)
  have hltH : ∀ A n st, w = .slice (some A) n st → A.block < H.next := fun A n st e => by have := hlt A n st e; omega
  (refine CodeH.seq' (CodeH.of_vc [] hm (by kernel_rfl) ?_); simp (config := { dsimp := false, maxSteps := 10000000 }) (disch := omega) only [go_sem, reduceIte, Nat.reduceEqDiff, reduceCtorEq, Nat.reduceAdd, Nat.reduceMul, Int.reduceToNat, Int.reduceLE, Int.reduceLT, Int.reduceEq, Int.reduceNe, Nat.reduceLeDiff, Int.reducePow, Nat.reducePow, Nat.reduceLT, Nat.reduceSub, Nat.reduceMod, Nat.reduceDiv, slot_neg, slot_pos, T.ag_22, T.ag_27, T.ag_3, T.ag_31, T.ag_4, T.eb_31, T.es_22, T.es_31, T.ez_31, T.gf_4, T.gf_5, T.gf_6, T.gf_7, T.gf_8, T.ib_24, T.ib_27, T.ib_3, T.ib_9, T.ii_22, T.ii_23, T.ii_31, T.ii_9, T.ip_24, T.ip_27, T.ip_3, T.ip_9, T.s8_22, T.s8_23, T.s8_31, T.s8_9, T.sl_22, T.sl_23, T.sl_31, T.sl_9, T.st_22, T.st_23, T.st_31, T.st_9, T.un_22, T.un_23, T.un_31, T.un_9, T.zo_3, T.zo_31, T.zo_4, init_a, q1, g1])
  refine (Values_ph H w ns hrH).mono fun u1 H1 ⟨e1, e2⟩ => ?_
  subst e1
  have hn1 : H1.next = H.next + 1 := by rw [e2]; rfl
  have hU1 : Upd H H1 [] := by rw [e2]; exact Upd.alloc _ _ _
  have gb : H1.get H.next = .live (.cells [w] .own) := by rw [e2, get_alloc, if_pos rfl]
  simp (config := { dsimp := false, maxSteps := 10000000 }) (disch := omega) only [go_sem, reduceIte, Nat.reduceEqDiff, reduceCtorEq, Nat.reduceAdd, Nat.reduceMul, Int.reduceToNat, Int.reduceLE, Int.reduceLT, Int.reduceEq, Int.reduceNe, Nat.reduceLeDiff, Int.reducePow, Nat.reducePow, Nat.reduceLT, Nat.reduceSub, Nat.reduceMod, Nat.reduceDiv, slot_neg, slot_pos, T.ag_22, T.ag_27, T.ag_3, T.ag_31, T.ag_4, T.eb_31, T.es_22, T.es_31, T.ez_31, T.gf_4, T.gf_5, T.gf_6, T.gf_7, T.gf_8, T.ib_24, T.ib_27, T.ib_3, T.ib_9, T.ii_22, T.ii_23, T.ii_31, T.ii_9, T.ip_24, T.ip_27, T.ip_3, T.ip_9, T.s8_22, T.s8_23, T.s8_31, T.s8_9, T.sl_22, T.sl_23, T.sl_31, T.sl_9, T.st_22, T.st_23, T.st_31, T.st_9, T.un_22, T.un_23, T.un_31, T.un_9, T.zo_3, T.zo_31, T.zo_4]
  refine (List_ph H1 H.next .own w ns gb (by omega) (hrH.upd fun A n st e => hU1.2 _ (hltH A n st e) (by simp)) (fun A n st e => by have := hltH A n st e; omega) hlen hsm).mono fun u2 H2 ⟨hU2, hres⟩ => ?_
  have gw := ((hU1.trans hU2 (by simp)).2 h.next (by omega) (by simp)).trans g1
  have gr := ((hU1.trans hU2 (by simp)).2 (h.next + 1) (by omega) (by simp)).trans g2
  have hn2 := hU2.1
  obtain ⟨vb, er, Db, hres2, hDb, hform⟩ : ∃ (vb : Value) (er : Int) (Db : List Nat), u2 = .tuple #[vb, .int .i64 er] ∧ (∀ d ∈ Db, H1.next ≤ d ∧ d < H2.next) ∧ (((∀ n ∈ ns, n < listB) ∧ er = 0 ∧ OwnRow u8E H2 vb Db (catS ns)) ∨ ((∃ n ∈ ns, listB ≤ n) ∧ er = 5 ∧ vb = .slice none 0 0)) := by
    rcases hres with ⟨k1, v, D, e, k2, k3⟩ | ⟨k1, e⟩
    · exact ⟨v, 0, D, e, fun d hd => ⟨k3 d hd, k2.lt d hd⟩, .inl ⟨k1, rfl, k2⟩⟩
    · exact ⟨_, 5, [], e, by simp, .inr ⟨k1, rfl, rfl⟩⟩
  subst hres2
  simp (config := { dsimp := false, maxSteps := 10000000 }) (disch := omega) only [go_sem, reduceIte, Nat.reduceEqDiff, reduceCtorEq, Nat.reduceAdd, Nat.reduceMul, Int.reduceToNat, Int.reduceLE, Int.reduceLT, Int.reduceEq, Int.reduceNe, Nat.reduceLeDiff, Int.reducePow, Nat.reducePow, Nat.reduceLT, Nat.reduceSub, Nat.reduceMod, Nat.reduceDiv, slot_neg, slot_pos, T.ag_22, T.ag_27, T.ag_3, T.ag_31, T.ag_4, T.eb_31, T.es_22, T.es_31, T.ez_31, T.gf_4, T.gf_5, T.gf_6, T.gf_7, T.gf_8, T.ib_24, T.ib_27, T.ib_3, T.ib_9, T.ii_22, T.ii_23, T.ii_31, T.ii_9, T.ip_24, T.ip_27, T.ip_3, T.ip_9, T.s8_22, T.s8_23, T.s8_31, T.s8_9, T.sl_22, T.sl_23, T.sl_31, T.sl_9, T.st_22, T.st_23, T.st_31, T.st_9, T.un_22, T.un_23, T.un_31, T.un_9, T.zo_3, T.zo_31, T.zo_4]
  (refine CodeH.seq' (CodeH.of_vc [] hm (by kernel_rfl) ?_); simp (config := { dsimp := false, maxSteps := 10000000 }) (disch := omega) only [go_sem, reduceIte, Nat.reduceEqDiff, reduceCtorEq, Nat.reduceAdd, Nat.reduceMul, Int.reduceToNat, Int.reduceLE, Int.reduceLT, Int.reduceEq, Int.reduceNe, Nat.reduceLeDiff, Int.reducePow, Nat.reducePow, Nat.reduceLT, Nat.reduceSub, Nat.reduceMod, Nat.reduceDiv, slot_neg, slot_pos, T.ag_22, T.ag_27, T.ag_3, T.ag_31, T.ag_4, T.eb_31, T.es_22, T.es_31, T.ez_31, T.gf_4, T.gf_5, T.gf_6, T.gf_7, T.gf_8, T.ib_24, T.ib_27, T.ib_3, T.ib_9, T.ii_22, T.ii_23, T.ii_31, T.ii_9, T.ip_24, T.ip_27, T.ip_3, T.ip_9, T.s8_22, T.s8_23, T.s8_31, T.s8_9, T.sl_22, T.sl_23, T.sl_31, T.sl_9, T.st_22, T.st_23, T.st_31, T.st_9, T.un_22, T.un_23, T.un_31, T.un_9, T.zo_3, T.zo_31, T.zo_4, init_a])
  (refine CodeH.seq' (CodeH.of_vc [] hm (by kernel_rfl) ?_); simp (config := { dsimp := false, maxSteps := 10000000 }) (disch := omega) only [go_sem, reduceIte, Nat.reduceEqDiff, reduceCtorEq, Nat.reduceAdd, Nat.reduceMul, Int.reduceToNat, Int.reduceLE, Int.reduceLT, Int.reduceEq, Int.reduceNe, Nat.reduceLeDiff, Int.reducePow, Nat.reducePow, Nat.reduceLT, Nat.reduceSub, Nat.reduceMod, Nat.reduceDiv, slot_neg, slot_pos, T.ag_22, T.ag_27, T.ag_3, T.ag_31, T.ag_4, T.eb_31, T.es_22, T.es_31, T.ez_31, T.gf_4, T.gf_5, T.gf_6, T.gf_7, T.gf_8, T.ib_24, T.ib_27, T.ib_3, T.ib_9, T.ii_22, T.ii_23, T.ii_31, T.ii_9, T.ip_24, T.ip_27, T.ip_3, T.ip_9, T.s8_22, T.s8_23, T.s8_31, T.s8_9, T.sl_22, T.sl_23, T.sl_31, T.sl_9, T.st_22, T.st_23, T.st_31, T.st_9, T.un_22, T.un_23, T.un_31, T.un_9, T.zo_3, T.zo_31, T.zo_4, init_a])
  (refine CodeH.seq' (CodeH.of_vc [] hm (by kernel_rfl) ?_); simp (config := { dsimp := false, maxSteps := 10000000 }) (disch := omega) only [go_sem, reduceIte, Nat.reduceEqDiff, reduceCtorEq, Nat.reduceAdd, Nat.reduceMul, Int.reduceToNat, Int.reduceLE, Int.reduceLT, Int.reduceEq, Int.reduceNe, Nat.reduceLeDiff, Int.reducePow, Nat.reducePow, Nat.reduceLT, Nat.reduceSub, Nat.reduceMod, Nat.reduceDiv, slot_neg, slot_pos, T.ag_22, T.ag_27, T.ag_3, T.ag_31, T.ag_4, T.eb_31, T.es_22, T.es_31, T.ez_31, T.gf_4, T.gf_5, T.gf_6, T.gf_7, T.gf_8, T.ib_24, T.ib_27, T.ib_3, T.ib_9, T.ii_22, T.ii_23, T.ii_31, T.ii_9, T.ip_24, T.ip_27, T.ip_3, T.ip_9, T.s8_22, T.s8_23, T.s8_31, T.s8_9, T.sl_22, T.sl_23, T.sl_31, T.sl_9, T.st_22, T.st_23, T.st_31, T.st_9, T.un_22, T.un_23, T.un_31, T.un_9, T.zo_3, T.zo_31, T.zo_4, init_a])
  obtain ⟨H3, hH3⟩ : ∃ H3, Heap.alloc H2 (.cells [.slice none 0 0] .own) = H3 := ⟨_, rfl⟩
  rw [hH3]
  have hn3 : H3.next = H2.next + 1 := by rw [← hH3]; rfl
  have hU3 : Upd H2 H3 [] := by rw [← hH3]; exact Upd.alloc _ _ _
  have g6 : H3.get H2.next = .live (.cells [.slice none 0 0] .own) := by rw [← hH3, get_alloc, if_pos rfl]
  clear hH3
  have gw3 := (hU3.2 _ (by omega) (by simp)).trans gw
  have gr3 := (hU3.2 _ (by omega) (by simp)).trans gr
  have hU03 : Upd h H3 [] := ((hU.trans hU1 (by simp)).trans hU2 (by simp)).trans hU3 (by simp)
  have hr3 : RowIn nE H3 w ns := hr.upd fun A n st e => hU03.2 _ (hlt A n st e) (by simp)
  obtain ⟨Aw, stw, ew⟩ := hr.form
  obtain ⟨a6, ha6⟩ : ∃ a6, H2.next = a6 := ⟨_, rfl⟩
  rw [ha6] at g6 hn3 hn2 hDb ⊢
  refine CodeH.gen (fun r' H' => H3 = H' ∧ r' 1 = .pointer (some ⟨h.next, 0, none⟩) ∧ r' 2 = .pointer (some ⟨h.next + 1, 0, none⟩) ∧ r' 3 = vb ∧ r' 4 = .int .i64 er ∧ r' 5 = .string (str []) ∧ r' 6 = .pointer (some ⟨a6, 0, none⟩) ∧ r' 7 = .bool false) ⟨rfl, by simp [upd, q1], by simp [upd, q2], by simp [upd], by simp [upd], by simp [upd], by simp [upd], by simp [upd]⟩ fun r4 H4 ⟨hh, p1, p2, p3, p4, p5, p6, p7⟩ => ?_
  subst hh
  refine CodeH.seq (fun r H => ∃ (bg : Bool) (va : Value) (Da : List Nat) (rl : List Int), Upd H3 H [a6] ∧ H.get a6 = .live (.cells [va] .own) ∧ OwnRow intE H va Da rl ∧ (∀ d ∈ Da, a6 < d) ∧ (bg = false → (∀ n ∈ ns, n < listB) ∧ r 5 = .string (str (catS ns)) ∧ rl = (List.range ns.length).map fun i => (posS ns i : Int)) ∧ (bg = true → ∃ n ∈ ns, listB ≤ n) ∧ r 1 = .pointer (some ⟨h.next, 0, none⟩) ∧ r 2 = .pointer (some ⟨h.next + 1, 0, none⟩) ∧ r 3 = vb ∧ r 4 = .int .i64 er ∧ r 6 = .pointer (some ⟨a6, 0, none⟩) ∧ r 7 = .bool bg) ?_ ?_
  · (refine CodeH.of_vc [] hm (by kernel_rfl) ?_; simp (config := { dsimp := false, maxSteps := 10000000 }) (disch := omega) only [go_sem, reduceIte, Nat.reduceEqDiff, reduceCtorEq, Nat.reduceAdd, Nat.reduceMul, Int.reduceToNat, Int.reduceLE, Int.reduceLT, Int.reduceEq, Int.reduceNe, Nat.reduceLeDiff, Int.reducePow, Nat.reducePow, Nat.reduceLT, Nat.reduceSub, Nat.reduceMod, Nat.reduceDiv, slot_neg, slot_pos, T.ag_22, T.ag_27, T.ag_3, T.ag_31, T.ag_4, T.eb_31, T.es_22, T.es_31, T.ez_31, T.gf_4, T.gf_5, T.gf_6, T.gf_7, T.gf_8, T.ib_24, T.ib_27, T.ib_3, T.ib_9, T.ii_22, T.ii_23, T.ii_31, T.ii_9, T.ip_24, T.ip_27, T.ip_3, T.ip_9, T.s8_22, T.s8_23, T.s8_31, T.s8_9, T.sl_22, T.sl_23, T.sl_31, T.sl_9, T.st_22, T.st_23, T.st_31, T.st_9, T.un_22, T.un_23, T.un_31, T.un_9, T.zo_3, T.zo_31, T.zo_4, init_a])
    refine loop_intro [] hm (fun r H => ∃ (i : Nat) (bg : Bool) (va : Value) (Da : List Nat) (rl : List Int), i ≤ ns.length ∧ Upd H3 H [a6] ∧ H.get a6 = .live (.cells [va] .own) ∧ OwnRow intE H va Da rl ∧ rl.length = i ∧ (∀ d ∈ Da, a6 < d) ∧ (bg = false → (∀ n ∈ ns.take i, n < listB) ∧ r 5 = .string (str (catS (ns.take i))) ∧ rl = (List.range i).map fun i => (posS ns i : Int)) ∧ (bg = true → ∃ n ∈ ns, listB ≤ n) ∧ r 1 = .pointer (some ⟨h.next, 0, none⟩) ∧ r 2 = .pointer (some ⟨h.next + 1, 0, none⟩) ∧ r 3 = vb ∧ r 4 = .int .i64 er ∧ r 6 = .pointer (some ⟨a6, 0, none⟩) ∧ r 7 = .bool bg ∧ r 8 = .int .i64 i) (fun r _ => match r 8 with | .int _ i => ns.length - i.toNat | _ => 0) ?_ ?_
    · exact ⟨0, false, _, [], [], by omega, Upd.refl _ _, g6, OwnRow.nil _, rfl, by simp, fun _ => ⟨by simp, by simp [upd, p5, catS], rfl⟩, by simp, by simp [upd, p1], by simp [upd, p2], by simp [upd, p3], by simp [upd, p4], by simp [upd, p6], by simp [upd, p7], by simp [upd]⟩
    · clear p1 p2 p3 p4 p5 p6 p7
      rintro r H ⟨i, bg, va, Da, rl, hi, hUH, ga, hOa, hrl, hDa, hff, htt, p1, p2, p3, p4, p6, p7, p8⟩
      have gwH := (hUH.2 h.next (by omega) (by simp; omega)).trans gw3
      rw [ew] at gwH
      by_cases hil : i < ns.length
      · have hlt' : ((i : Int) < (ns.length : Int)) = True := eq_true (by omega)
        cases bg with
        | true =>
          simp (config := { dsimp := false, maxSteps := 10000000 }) (disch := omega) only [go_sem, reduceIte, Nat.reduceEqDiff, reduceCtorEq, Nat.reduceAdd, Nat.reduceMul, Int.reduceToNat, Int.reduceLE, Int.reduceLT, Int.reduceEq, Int.reduceNe, Nat.reduceLeDiff, Int.reducePow, Nat.reducePow, Nat.reduceLT, Nat.reduceSub, Nat.reduceMod, Nat.reduceDiv, slot_neg, slot_pos, T.ag_22, T.ag_27, T.ag_3, T.ag_31, T.ag_4, T.eb_31, T.es_22, T.es_31, T.ez_31, T.gf_4, T.gf_5, T.gf_6, T.gf_7, T.gf_8, T.ib_24, T.ib_27, T.ib_3, T.ib_9, T.ii_22, T.ii_23, T.ii_31, T.ii_9, T.ip_24, T.ip_27, T.ip_3, T.ip_9, T.s8_22, T.s8_23, T.s8_31, T.s8_9, T.sl_22, T.sl_23, T.sl_31, T.sl_9, T.st_22, T.st_23, T.st_31, T.st_9, T.un_22, T.un_23, T.un_31, T.un_9, T.zo_3, T.zo_31, T.zo_4, p1, p2, p3, p4, p6, p7, p8, gwH, hlt']
          exact ⟨true, va, Da, rl, hUH, ga, hOa, hDa, by simp, htt, rfl⟩
        | false =>
          obtain ⟨hsmi, p5, hrle⟩ := hff rfl
          have hx : ns[i]? = some ns[i] := List.getElem?_eq_getElem hil
          rcases id hr3 with ⟨_, hnil⟩ | ⟨q, off, vs, o, ew2, hq, hR⟩
          · rw [hnil] at hil; simp at hil
          have y1 : vs[off + i]? = some (.int .u64 (ns[i] : Int)) := by
            have := hR.cell hx (j := 0) (by decide)
            simpa [nE] using this
          have hqH : H.get q = .live (.cells vs o) := (hUH.2 q (by have := hlt _ _ _ ew2; simp only at this; omega) (by have := hlt _ _ _ ew2; simp only at this; simp; omega)).trans hq
          have hmem : ns[i] ∈ ns := List.getElem_mem _
          have htn := take_next hx
          generalize ns[i] = x at hx y1 hmem htn
          have hK : nE.k = 1 := rfl
          have gwH2 := (hUH.2 h.next (by omega) (by simp; omega)).trans gw3
          rw [ew2] at gwH2
          have hxs := hsm x hmem
          have w1 : IntKind.i64.wrap ((i : Int) + 1) = ((i + 1 : Nat) : Int) := by rw [i64wrap] <;> omega
          have hoa := hOa.row.one
          simp (config := { dsimp := false, maxSteps := 10000000 }) (disch := omega) only [go_sem, reduceIte, Nat.reduceEqDiff, reduceCtorEq, Nat.reduceAdd, Nat.reduceMul, Int.reduceToNat, Int.reduceLE, Int.reduceLT, Int.reduceEq, Int.reduceNe, Nat.reduceLeDiff, Int.reducePow, Nat.reducePow, Nat.reduceLT, Nat.reduceSub, Nat.reduceMod, Nat.reduceDiv, slot_neg, slot_pos, T.ag_22, T.ag_27, T.ag_3, T.ag_31, T.ag_4, T.eb_31, T.es_22, T.es_31, T.ez_31, T.gf_4, T.gf_5, T.gf_6, T.gf_7, T.gf_8, T.ib_24, T.ib_27, T.ib_3, T.ib_9, T.ii_22, T.ii_23, T.ii_31, T.ii_9, T.ip_24, T.ip_27, T.ip_3, T.ip_9, T.s8_22, T.s8_23, T.s8_31, T.s8_9, T.sl_22, T.sl_23, T.sl_31, T.sl_9, T.st_22, T.st_23, T.st_31, T.st_9, T.un_22, T.un_23, T.un_31, T.un_9, T.zo_3, T.zo_31, T.zo_4, p1, p2, p3, p4, p5, p6, p7, p8, gwH2, hlt', hK, hqH, y1]
          refine CallsH.pure _ (by split <;> rfl) (PutR_ph x hxs _) ?_
          by_cases hxb : x < 4611686018427387904
          · rw [if_pos hxb]
            simp (config := { dsimp := false, maxSteps := 10000000 }) (disch := omega) only [go_sem, reduceIte, Nat.reduceEqDiff, reduceCtorEq, Nat.reduceAdd, Nat.reduceMul, Int.reduceToNat, Int.reduceLE, Int.reduceLT, Int.reduceEq, Int.reduceNe, Nat.reduceLeDiff, Int.reducePow, Nat.reducePow, Nat.reduceLT, Nat.reduceSub, Nat.reduceMod, Nat.reduceDiv, slot_neg, slot_pos, T.ag_22, T.ag_27, T.ag_3, T.ag_31, T.ag_4, T.eb_31, T.es_22, T.es_31, T.ez_31, T.gf_4, T.gf_5, T.gf_6, T.gf_7, T.gf_8, T.ib_24, T.ib_27, T.ib_3, T.ib_9, T.ii_22, T.ii_23, T.ii_31, T.ii_9, T.ip_24, T.ip_27, T.ip_3, T.ip_9, T.s8_22, T.s8_23, T.s8_31, T.s8_9, T.sl_22, T.sl_23, T.sl_31, T.sl_9, T.st_22, T.st_23, T.st_31, T.st_9, T.un_22, T.un_23, T.un_31, T.un_9, T.zo_3, T.zo_31, T.zo_4, p1, p2, p3, p4, p5, p6, p7, p8, ga, hoa.1, hoa.2]
            have hg3 : ∀ (b : Blk) d, d < H.next → (H.alloc b).get d = H.get d := fun b d hd => by rw [get_alloc, if_neg (by omega)]
            have hnH := hUH.1
            refine app_own (E := intE) (ns := [((catS (ns.take i)).length : Int)]) (hOa.keep (Nat.le_succ _) fun d hd => hg3 _ d (hOa.lt d hd)) rfl rfl rfl (by rw [show ([((catS (ns.take i)).length : Int)] : List Int).length = 1 from rfl, hrl]; omega) fun u6 H6 D6 hO6 hU6 hD6 => ?_
            have n6 : H.next + 1 ≤ H6.next := hU6.1
            have ga6 : H6.get a6 = .live (.cells [va] .own) := by
              rw [hU6.2 a6 (by rw [next_alloc]; omega) (fun hd => by have := hDa a6 hd; omega), hg3 _ a6 (by omega)]; exact ga
            have hU36 : Upd H3 H6 [a6] := hUH.trans ((Upd.alloc H (.cells [.int .i64 ((catS (ns.take i)).length : Int)] .own) Da).trans hU6 fun d hd => .inl hd) fun d hd => .inr (by have := hDa d hd; omega)
            have hD7 : ∀ d ∈ D6, a6 < d := fun d hd => by
              rcases hD6 d hd with h7 | h7
              · exact hDa d h7
              · have h8 : H.next + 1 ≤ d := h7
                omega
            have hou := hO6.row.one
            have hcl := cat_len (ns.take i)
            have htl : (ns.take i).length ≤ 60 := by rw [List.length_take]; omega
            have hvl := vputS_len x (vsz x)
            have hvz := vsz_le x
            have hls : ((catS (ns.take i)).length + (vputS x (vsz x)).length ≤ 9223372036854775807) = True := eq_true (by omega)
            simp (config := { dsimp := false, maxSteps := 10000000 }) (disch := omega) only [go_sem, reduceIte, Nat.reduceEqDiff, reduceCtorEq, Nat.reduceAdd, Nat.reduceMul, Int.reduceToNat, Int.reduceLE, Int.reduceLT, Int.reduceEq, Int.reduceNe, Nat.reduceLeDiff, Int.reducePow, Nat.reducePow, Nat.reduceLT, Nat.reduceSub, Nat.reduceMod, Nat.reduceDiv, slot_neg, slot_pos, T.ag_22, T.ag_27, T.ag_3, T.ag_31, T.ag_4, T.eb_31, T.es_22, T.es_31, T.ez_31, T.gf_4, T.gf_5, T.gf_6, T.gf_7, T.gf_8, T.ib_24, T.ib_27, T.ib_3, T.ib_9, T.ii_22, T.ii_23, T.ii_31, T.ii_9, T.ip_24, T.ip_27, T.ip_3, T.ip_9, T.s8_22, T.s8_23, T.s8_31, T.s8_9, T.sl_22, T.sl_23, T.sl_31, T.sl_9, T.st_22, T.st_23, T.st_31, T.st_9, T.un_22, T.un_23, T.un_31, T.un_9, T.zo_3, T.zo_31, T.zo_4, p1, p2, p3, p4, p5, p6, p7, p8, ga6, hou.1, hou.2, w1, hls]
            have hrl2 : rl ++ [((catS (ns.take i)).length : Int)] = (List.range (i + 1)).map fun i => (posS ns i : Int) := by rw [List.range_succ, List.map_append, ← hrle]; rfl
            refine ⟨⟨i + 1, false, u6, D6, _, hil, hU36.put (.inl (by simp)), rfl, hO6.keep (by rw [next_put]; exact Nat.le_refl _) (fun d hd => by rw [get_put, if_neg (by have := hD7 d hd; omega)]), by simp [hrl], hD7, fun _ => ⟨fun z hz => ?_, by rw [htn, cat_snoc], hrl2⟩, by simp, rfl, rfl⟩, by omega⟩
            rw [htn] at hz
            rcases List.mem_append.1 hz with h7 | h7
            · exact hsmi z h7
            · rw [List.mem_singleton.1 h7]; exact hxb
          · rw [if_neg hxb]
            simp (config := { dsimp := false, maxSteps := 10000000 }) (disch := omega) only [go_sem, reduceIte, Nat.reduceEqDiff, reduceCtorEq, Nat.reduceAdd, Nat.reduceMul, Int.reduceToNat, Int.reduceLE, Int.reduceLT, Int.reduceEq, Int.reduceNe, Nat.reduceLeDiff, Int.reducePow, Nat.reducePow, Nat.reduceLT, Nat.reduceSub, Nat.reduceMod, Nat.reduceDiv, slot_neg, slot_pos, T.ag_22, T.ag_27, T.ag_3, T.ag_31, T.ag_4, T.eb_31, T.es_22, T.es_31, T.ez_31, T.gf_4, T.gf_5, T.gf_6, T.gf_7, T.gf_8, T.ib_24, T.ib_27, T.ib_3, T.ib_9, T.ii_22, T.ii_23, T.ii_31, T.ii_9, T.ip_24, T.ip_27, T.ip_3, T.ip_9, T.s8_22, T.s8_23, T.s8_31, T.s8_9, T.sl_22, T.sl_23, T.sl_31, T.sl_9, T.st_22, T.st_23, T.st_31, T.st_9, T.un_22, T.un_23, T.un_31, T.un_9, T.zo_3, T.zo_31, T.zo_4, p1, p2, p3, p4, p5, p6, p7, p8, ga, hoa.1, hoa.2]
            have hg3 : ∀ (b : Blk) d, d < H.next → (H.alloc b).get d = H.get d := fun b d hd => by rw [get_alloc, if_neg (by omega)]
            have hnH := hUH.1
            refine app_own (E := intE) (ns := [((catS (ns.take i)).length : Int)]) (hOa.keep (Nat.le_succ _) fun d hd => hg3 _ d (hOa.lt d hd)) rfl rfl rfl (by rw [show ([((catS (ns.take i)).length : Int)] : List Int).length = 1 from rfl, hrl]; omega) fun u6 H6 D6 hO6 hU6 hD6 => ?_
            have n6 : H.next + 1 ≤ H6.next := hU6.1
            have ga6 : H6.get a6 = .live (.cells [va] .own) := by
              rw [hU6.2 a6 (by rw [next_alloc]; omega) (fun hd => by have := hDa a6 hd; omega), hg3 _ a6 (by omega)]; exact ga
            have hU36 : Upd H3 H6 [a6] := hUH.trans ((Upd.alloc H (.cells [.int .i64 ((catS (ns.take i)).length : Int)] .own) Da).trans hU6 fun d hd => .inl hd) fun d hd => .inr (by have := hDa d hd; omega)
            have hD7 : ∀ d ∈ D6, a6 < d := fun d hd => by
              rcases hD6 d hd with h7 | h7
              · exact hDa d h7
              · have h8 : H.next + 1 ≤ d := h7
                omega
            have hou := hO6.row.one
            have hcl := cat_len (ns.take i)
            have htl : (ns.take i).length ≤ 60 := by rw [List.length_take]; omega
            have hls : ((catS (ns.take i)).length ≤ 9223372036854775807) = True := eq_true (by omega)
            simp (config := { dsimp := false, maxSteps := 10000000 }) (disch := omega) only [go_sem, reduceIte, Nat.reduceEqDiff, reduceCtorEq, Nat.reduceAdd, Nat.reduceMul, Int.reduceToNat, Int.reduceLE, Int.reduceLT, Int.reduceEq, Int.reduceNe, Nat.reduceLeDiff, Int.reducePow, Nat.reducePow, Nat.reduceLT, Nat.reduceSub, Nat.reduceMod, Nat.reduceDiv, slot_neg, slot_pos, T.ag_22, T.ag_27, T.ag_3, T.ag_31, T.ag_4, T.eb_31, T.es_22, T.es_31, T.ez_31, T.gf_4, T.gf_5, T.gf_6, T.gf_7, T.gf_8, T.ib_24, T.ib_27, T.ib_3, T.ib_9, T.ii_22, T.ii_23, T.ii_31, T.ii_9, T.ip_24, T.ip_27, T.ip_3, T.ip_9, T.s8_22, T.s8_23, T.s8_31, T.s8_9, T.sl_22, T.sl_23, T.sl_31, T.sl_9, T.st_22, T.st_23, T.st_31, T.st_9, T.un_22, T.un_23, T.un_31, T.un_9, T.zo_3, T.zo_31, T.zo_4, p1, p2, p3, p4, p5, p6, p7, p8, ga6, hou.1, hou.2, w1, hls]
            exact ⟨⟨i + 1, true, u6, D6, _, hil, hU36.put (.inl (by simp)), rfl, hO6.keep (by rw [next_put]; exact Nat.le_refl _) (fun d hd => by rw [get_put, if_neg (by have := hD7 d hd; omega)]), by simp [hrl], hD7, by simp, fun _ => ⟨x, hmem, by unfold listB; omega⟩, rfl, rfl⟩, by omega⟩
      · have hlt' : ((i : Int) < (ns.length : Int)) = False := eq_false (by omega)
        obtain rfl : i = ns.length := by omega
        rw [List.take_length] at hff
        simp (config := { dsimp := false, maxSteps := 10000000 }) (disch := omega) only [go_sem, reduceIte, Nat.reduceEqDiff, reduceCtorEq, Nat.reduceAdd, Nat.reduceMul, Int.reduceToNat, Int.reduceLE, Int.reduceLT, Int.reduceEq, Int.reduceNe, Nat.reduceLeDiff, Int.reducePow, Nat.reducePow, Nat.reduceLT, Nat.reduceSub, Nat.reduceMod, Nat.reduceDiv, slot_neg, slot_pos, T.ag_22, T.ag_27, T.ag_3, T.ag_31, T.ag_4, T.eb_31, T.es_22, T.es_31, T.ez_31, T.gf_4, T.gf_5, T.gf_6, T.gf_7, T.gf_8, T.ib_24, T.ib_27, T.ib_3, T.ib_9, T.ii_22, T.ii_23, T.ii_31, T.ii_9, T.ip_24, T.ip_27, T.ip_3, T.ip_9, T.s8_22, T.s8_23, T.s8_31, T.s8_9, T.sl_22, T.sl_23, T.sl_31, T.sl_9, T.st_22, T.st_23, T.st_31, T.st_9, T.un_22, T.un_23, T.un_31, T.un_9, T.zo_3, T.zo_31, T.zo_4, p1, p2, p3, p4, p6, p7, p8, gwH, hlt']
        exact ⟨bg, va, Da, rl, hUH, ga, hOa, hDa, hff, htt, rfl⟩
  rintro r H ⟨bg, va, Da, rl, hUH, ga, hOa, hDa, hff, htt, p1, p2, p3, p4, p6, p7⟩
  (refine CodeH.seq' (CodeH.of_vc [] hm (by kernel_rfl) ?_); simp (config := { dsimp := false, maxSteps := 10000000 }) (disch := omega) only [go_sem, reduceIte, Nat.reduceEqDiff, reduceCtorEq, Nat.reduceAdd, Nat.reduceMul, Int.reduceToNat, Int.reduceLE, Int.reduceLT, Int.reduceEq, Int.reduceNe, Nat.reduceLeDiff, Int.reducePow, Nat.reducePow, Nat.reduceLT, Nat.reduceSub, Nat.reduceMod, Nat.reduceDiv, slot_neg, slot_pos, T.ag_22, T.ag_27, T.ag_3, T.ag_31, T.ag_4, T.eb_31, T.es_22, T.es_31, T.ez_31, T.gf_4, T.gf_5, T.gf_6, T.gf_7, T.gf_8, T.ib_24, T.ib_27, T.ib_3, T.ib_9, T.ii_22, T.ii_23, T.ii_31, T.ii_9, T.ip_24, T.ip_27, T.ip_3, T.ip_9, T.s8_22, T.s8_23, T.s8_31, T.s8_9, T.sl_22, T.sl_23, T.sl_31, T.sl_9, T.st_22, T.st_23, T.st_31, T.st_9, T.un_22, T.un_23, T.un_31, T.un_9, T.zo_3, T.zo_31, T.zo_4, init_a])
  refine (counts_ph H).mono fun u5 H5 ⟨e5, hU5⟩ => ?_
  subst e5
  have hU35 : Upd H3 H5 [a6] := hUH.trans hU5 (by simp)
  have gwH := (hU35.2 h.next (by omega) (by simp; omega)).trans gw3
  have grH := (hU35.2 (h.next + 1) (by omega) (by simp; omega)).trans gr3
  have hla := hOa.lt
  have ga5 : H5.get a6 = .live (.cells [va] .own) := (hU5.2 a6 (by have := hUH.1; omega) (by simp)).trans ga
  have hOa5 := hOa.upd hU5 (by simp)
  simp (config := { dsimp := false, maxSteps := 10000000 }) (disch := omega) only [go_sem, reduceIte, Nat.reduceEqDiff, reduceCtorEq, Nat.reduceAdd, Nat.reduceMul, Int.reduceToNat, Int.reduceLE, Int.reduceLT, Int.reduceEq, Int.reduceNe, Nat.reduceLeDiff, Int.reducePow, Nat.reducePow, Nat.reduceLT, Nat.reduceSub, Nat.reduceMod, Nat.reduceDiv, slot_neg, slot_pos, T.ag_22, T.ag_27, T.ag_3, T.ag_31, T.ag_4, T.eb_31, T.es_22, T.es_31, T.ez_31, T.gf_4, T.gf_5, T.gf_6, T.gf_7, T.gf_8, T.ib_24, T.ib_27, T.ib_3, T.ib_9, T.ii_22, T.ii_23, T.ii_31, T.ii_9, T.ip_24, T.ip_27, T.ip_3, T.ip_9, T.s8_22, T.s8_23, T.s8_31, T.s8_9, T.sl_22, T.sl_23, T.sl_31, T.sl_9, T.st_22, T.st_23, T.st_31, T.st_9, T.un_22, T.un_23, T.un_31, T.un_9, T.zo_3, T.zo_31, T.zo_4]
  cases bg with
  | true =>
    obtain ⟨x, hx1, hx2⟩ := htt rfl
    rcases hform with ⟨k1, _⟩ | ⟨_, k2, k3⟩
    · have := k1 x hx1; omega
    · subst k2 k3
      (refine CodeH.seq' (CodeH.of_vc [] hm (by kernel_rfl) ?_); simp (config := { dsimp := false, maxSteps := 10000000 }) (disch := omega) only [go_sem, reduceIte, Nat.reduceEqDiff, reduceCtorEq, Nat.reduceAdd, Nat.reduceMul, Int.reduceToNat, Int.reduceLE, Int.reduceLT, Int.reduceEq, Int.reduceNe, Nat.reduceLeDiff, Int.reducePow, Nat.reducePow, Nat.reduceLT, Nat.reduceSub, Nat.reduceMod, Nat.reduceDiv, slot_neg, slot_pos, T.ag_22, T.ag_27, T.ag_3, T.ag_31, T.ag_4, T.eb_31, T.es_22, T.es_31, T.ez_31, T.gf_4, T.gf_5, T.gf_6, T.gf_7, T.gf_8, T.ib_24, T.ib_27, T.ib_3, T.ib_9, T.ii_22, T.ii_23, T.ii_31, T.ii_9, T.ip_24, T.ip_27, T.ip_3, T.ip_9, T.s8_22, T.s8_23, T.s8_31, T.s8_9, T.sl_22, T.sl_23, T.sl_31, T.sl_9, T.st_22, T.st_23, T.st_31, T.st_9, T.un_22, T.un_23, T.un_31, T.un_9, T.zo_3, T.zo_31, T.zo_4, init_a, p2, p3, p4, p7, grH])
  | false =>
    obtain ⟨hsmall, p5, hrle⟩ := hff rfl
    rcases hform with ⟨_, k2, hOb⟩ | ⟨⟨x, hx1, hx2⟩, _⟩
    rotate_left
    · have := hsmall x hx1; omega
    subst k2
    have hOb3 := (hOb.upd hU3 (by simp)).upd hU35 (fun d hd => by have := hDb d hd; simp; omega)
    (refine CodeH.seq' (CodeH.of_vc [] hm (by kernel_rfl) ?_); simp (config := { dsimp := false, maxSteps := 10000000 }) (disch := omega) only [go_sem, reduceIte, Nat.reduceEqDiff, reduceCtorEq, Nat.reduceAdd, Nat.reduceMul, Int.reduceToNat, Int.reduceLE, Int.reduceLT, Int.reduceEq, Int.reduceNe, Nat.reduceLeDiff, Int.reducePow, Nat.reducePow, Nat.reduceLT, Nat.reduceSub, Nat.reduceMod, Nat.reduceDiv, slot_neg, slot_pos, T.ag_22, T.ag_27, T.ag_3, T.ag_31, T.ag_4, T.eb_31, T.es_22, T.es_31, T.ez_31, T.gf_4, T.gf_5, T.gf_6, T.gf_7, T.gf_8, T.ib_24, T.ib_27, T.ib_3, T.ib_9, T.ii_22, T.ii_23, T.ii_31, T.ii_9, T.ip_24, T.ip_27, T.ip_3, T.ip_9, T.s8_22, T.s8_23, T.s8_31, T.s8_9, T.sl_22, T.sl_23, T.sl_31, T.sl_9, T.st_22, T.st_23, T.st_31, T.st_9, T.un_22, T.un_23, T.un_31, T.un_9, T.zo_3, T.zo_31, T.zo_4, init_a, p7])
    refine CodeH.seq (fun r' H' => H5 = H' ∧ r' 1 = .pointer (some ⟨h.next, 0, none⟩) ∧ r' 2 = .pointer (some ⟨h.next + 1, 0, none⟩) ∧ r' 3 = vb ∧ r' 6 = .pointer (some ⟨a6, 0, none⟩)) ?_ ?_
    · rcases hOb3.row.slb with ⟨ev, hn⟩ | ⟨i1, f1, vs1, o1, ev, j2, j3, j4⟩
      · rw [hn] at p5
        subst ev
        (refine CodeH.of_vc [] hm (by kernel_rfl) ?_; simp (config := { dsimp := false, maxSteps := 10000000 }) (disch := omega) only [go_sem, reduceIte, Nat.reduceEqDiff, reduceCtorEq, Nat.reduceAdd, Nat.reduceMul, Int.reduceToNat, Int.reduceLE, Int.reduceLT, Int.reduceEq, Int.reduceNe, Nat.reduceLeDiff, Int.reducePow, Nat.reducePow, Nat.reduceLT, Nat.reduceSub, Nat.reduceMod, Nat.reduceDiv, slot_neg, slot_pos, T.ag_22, T.ag_27, T.ag_3, T.ag_31, T.ag_4, T.eb_31, T.es_22, T.es_31, T.ez_31, T.gf_4, T.gf_5, T.gf_6, T.gf_7, T.gf_8, T.ib_24, T.ib_27, T.ib_3, T.ib_9, T.ii_22, T.ii_23, T.ii_31, T.ii_9, T.ip_24, T.ip_27, T.ip_3, T.ip_9, T.s8_22, T.s8_23, T.s8_31, T.s8_9, T.sl_22, T.sl_23, T.sl_31, T.sl_9, T.st_22, T.st_23, T.st_31, T.st_9, T.un_22, T.un_23, T.un_31, T.un_9, T.zo_3, T.zo_31, T.zo_4, init_a, p1, p2, p3, p4, p5, p6, p7])
      · subst ev
        (refine CodeH.of_vc [] hm (by kernel_rfl) ?_; simp (config := { dsimp := false, maxSteps := 10000000 }) (disch := omega) only [go_sem, reduceIte, Nat.reduceEqDiff, reduceCtorEq, Nat.reduceAdd, Nat.reduceMul, Int.reduceToNat, Int.reduceLE, Int.reduceLT, Int.reduceEq, Int.reduceNe, Nat.reduceLeDiff, Int.reducePow, Nat.reducePow, Nat.reduceLT, Nat.reduceSub, Nat.reduceMod, Nat.reduceDiv, slot_neg, slot_pos, T.ag_22, T.ag_27, T.ag_3, T.ag_31, T.ag_4, T.eb_31, T.es_22, T.es_31, T.ez_31, T.gf_4, T.gf_5, T.gf_6, T.gf_7, T.gf_8, T.ib_24, T.ib_27, T.ib_3, T.ib_9, T.ii_22, T.ii_23, T.ii_31, T.ii_9, T.ip_24, T.ip_27, T.ip_3, T.ip_9, T.s8_22, T.s8_23, T.s8_31, T.s8_9, T.sl_22, T.sl_23, T.sl_31, T.sl_9, T.st_22, T.st_23, T.st_31, T.st_9, T.un_22, T.un_23, T.un_31, T.un_9, T.zo_3, T.zo_31, T.zo_4, init_a, p1, p2, p3, p4, p5, p6, p7, j2, j3, bc_val])
        exact j4
    rintro r H5' ⟨hh, p1, p2, p3, p6⟩
    subst hh
    have hrl : rl.length = ns.length := by rw [hrle]; simp
    (refine CodeH.seq' (CodeH.of_vc [] hm (by kernel_rfl) ?_); simp (config := { dsimp := false, maxSteps := 10000000 }) (disch := omega) only [go_sem, reduceIte, Nat.reduceEqDiff, reduceCtorEq, Nat.reduceAdd, Nat.reduceMul, Int.reduceToNat, Int.reduceLE, Int.reduceLT, Int.reduceEq, Int.reduceNe, Nat.reduceLeDiff, Int.reducePow, Nat.reducePow, Nat.reduceLT, Nat.reduceSub, Nat.reduceMod, Nat.reduceDiv, slot_neg, slot_pos, T.ag_22, T.ag_27, T.ag_3, T.ag_31, T.ag_4, T.eb_31, T.es_22, T.es_31, T.ez_31, T.gf_4, T.gf_5, T.gf_6, T.gf_7, T.gf_8, T.ib_24, T.ib_27, T.ib_3, T.ib_9, T.ii_22, T.ii_23, T.ii_31, T.ii_9, T.ip_24, T.ip_27, T.ip_3, T.ip_9, T.s8_22, T.s8_23, T.s8_31, T.s8_9, T.sl_22, T.sl_23, T.sl_31, T.sl_9, T.st_22, T.st_23, T.st_31, T.st_9, T.un_22, T.un_23, T.un_31, T.un_9, T.zo_3, T.zo_31, T.zo_4, init_a])
    obtain ⟨H7, hH7⟩ : ∃ H7, (H5.alloc (.cells [.int .i64 0] .own)).put H5.next (.live (.cells [.int .i64 0] .own)) = H7 := ⟨_, rfl⟩
    rw [hH7]
    have hn7 : H7.next = H5.next + 1 := by rw [← hH7]; rfl
    have hU7 : Upd H5 H7 [] := by rw [← hH7]; exact (Upd.alloc _ _ _).put (.inr (Nat.le_refl _))
    have g11 : H7.get H5.next = .live (.cells [.int .i64 0] .own) := by rw [← hH7, get_put, if_pos rfl]
    clear hH7
    have hOb7 := hOb3.upd hU7 (by simp)
    (refine CodeH.seq' (CodeH.of_vc [] hm (by kernel_rfl) ?_); simp (config := { dsimp := false, maxSteps := 10000000 }) (disch := omega) only [go_sem, reduceIte, Nat.reduceEqDiff, reduceCtorEq, Nat.reduceAdd, Nat.reduceMul, Int.reduceToNat, Int.reduceLE, Int.reduceLT, Int.reduceEq, Int.reduceNe, Nat.reduceLeDiff, Int.reducePow, Nat.reducePow, Nat.reduceLT, Nat.reduceSub, Nat.reduceMod, Nat.reduceDiv, slot_neg, slot_pos, T.ag_22, T.ag_27, T.ag_3, T.ag_31, T.ag_4, T.eb_31, T.es_22, T.es_31, T.ez_31, T.gf_4, T.gf_5, T.gf_6, T.gf_7, T.gf_8, T.ib_24, T.ib_27, T.ib_3, T.ib_9, T.ii_22, T.ii_23, T.ii_31, T.ii_9, T.ip_24, T.ip_27, T.ip_3, T.ip_9, T.s8_22, T.s8_23, T.s8_31, T.s8_9, T.sl_22, T.sl_23, T.sl_31, T.sl_9, T.st_22, T.st_23, T.st_31, T.st_9, T.un_22, T.un_23, T.un_31, T.un_9, T.zo_3, T.zo_31, T.zo_4, init_a, p3])
    refine (All_ph H7 vb (catS ns) hOb7.row).mono fun u8 H8 ⟨e8, e9⟩ => ?_
    subst e8
    have hn8 : H8.next = H7.next + 1 := by rw [e9]; rfl
    have hU8 : Upd H7 H8 [] := by rw [e9]; exact Upd.alloc _ _ _
    have gb8 : H8.get H7.next = .live (.cells [vb] .own) := by rw [e9, get_alloc, if_pos rfl]
    clear e9
    have hU38 : Upd H3 H8 [a6] := (hU35.trans hU7 (by simp)).trans hU8 (by simp)
    have hU58 : Upd H5 H8 [] := hU7.trans hU8 (by simp)
    have h5n := hU35.1
    have gw8 : H8.get h.next = .live (.cells [w] .own) := (hU58.2 _ (by omega) (by simp)).trans gwH
    have gr8 : H8.get (h.next + 1) = .live (.cells [.bool false] .own) := (hU58.2 _ (by omega) (by simp)).trans grH
    have ga8 : H8.get a6 = .live (.cells [va] .own) := (hU58.2 _ (by omega) (by simp)).trans ga5
    have g118 : H8.get H5.next = .live (.cells [.int .i64 0] .own) := (hU8.2 _ (by omega) (by simp)).trans g11
    have hOa8 := hOa5.upd hU58 (by simp)
    have hOb8 := hOb7.upd hU8 (by simp)
    have hr8 : RowIn nE H8 w ns := hr3.upd fun A n st e => by have := hlt A n st e; exact hU38.2 _ (by omega) (by simp; omega)
    simp (config := { dsimp := false, maxSteps := 10000000 }) (disch := omega) only [go_sem, reduceIte, Nat.reduceEqDiff, reduceCtorEq, Nat.reduceAdd, Nat.reduceMul, Int.reduceToNat, Int.reduceLE, Int.reduceLT, Int.reduceEq, Int.reduceNe, Nat.reduceLeDiff, Int.reducePow, Nat.reducePow, Nat.reduceLT, Nat.reduceSub, Nat.reduceMod, Nat.reduceDiv, slot_neg, slot_pos, T.ag_22, T.ag_27, T.ag_3, T.ag_31, T.ag_4, T.eb_31, T.es_22, T.es_31, T.ez_31, T.gf_4, T.gf_5, T.gf_6, T.gf_7, T.gf_8, T.ib_24, T.ib_27, T.ib_3, T.ib_9, T.ii_22, T.ii_23, T.ii_31, T.ii_9, T.ip_24, T.ip_27, T.ip_3, T.ip_9, T.s8_22, T.s8_23, T.s8_31, T.s8_9, T.sl_22, T.sl_23, T.sl_31, T.sl_9, T.st_22, T.st_23, T.st_31, T.st_9, T.un_22, T.un_23, T.un_31, T.un_9, T.zo_3, T.zo_31, T.zo_4]
    refine RF.gen (fun r => r 1 = .pointer (some ⟨h.next, 0, none⟩) ∧ r 2 = .pointer (some ⟨h.next + 1, 0, none⟩) ∧ r 6 = .pointer (some ⟨a6, 0, none⟩) ∧ r 11 = .pointer (some ⟨H5.next, 0, none⟩) ∧ r 72 = .func (.func 14) #[] #[.pointer (some ⟨H7.next, 0, none⟩)]) ⟨by simp [upd, p1], by simp [upd, p2], by simp [upd, p6], by simp [upd], by simp [upd]⟩ fun r ⟨q1, q2, q6, q11, q72⟩ => ?_
    refine range_over q72 (by kernel_rfl) (AllS H7.next vb ns hlen hsmall) (fun args ha => ?_) (fun i H => H8.next < H.next ∧ Upd H8 H [H5.next] ∧ H.get H5.next = .live (.cells [.int .i64 i] .own)) ?_ ?_ ?_ ?_ ?_ ?_
    · obtain ⟨i, _, rfl⟩ := List.mem_map.1 ha; rfl
    · intro H hu1 hn9
      exact ⟨by omega, hu1.mono (by simp), (hu1.2 _ (by omega) (by simp)).trans g118⟩
    · rintro i H ⟨_, hu, _⟩
      refine ⟨_, (hu.2 _ (by omega) (by simp; omega)).trans gb8, (hOb8.upd hu fun d hd => ?_).row⟩
      have := hDb d hd
      simp; omega
    · rintro i H H' ⟨a1, a2, a3⟩ hu
      exact ⟨Nat.lt_of_lt_of_le a1 hu.1, a2.trans hu (by simp), (hu.2 _ (by omega) (by simp)).trans a3⟩
    · rintro i H x ⟨a1, a2, a3⟩
      exact ⟨a1, a2.put (.inr (Nat.le_refl _)), by rw [get_put, if_neg (by omega)]; exact a3⟩
    · rintro H x ⟨a1, a2, a3⟩
      rw [show ((List.range ns.length).map fun i => #[Value.int .i64 (posS ns i : Nat), Value.int .u64 ((ns[i]?.getD 0 : Nat) : Int)]).length = ns.length by simp] at a3
      obtain ⟨Hx, hHx⟩ : ∃ Hx, H.put H8.next x = Hx := ⟨_, rfl⟩
      rw [hHx]
      have e3 : Hx.get H5.next = .live (.cells [.int .i64 ns.length] .own) := by rw [← hHx, get_put, if_neg (by omega)]; exact a3
      have e4 : Hx.get h.next = .live (.cells [w] .own) := by rw [← hHx, get_put, if_neg (by omega), a2.2 _ (by omega) (by simp; omega)]; exact gw8
      have e5 : Hx.get (h.next + 1) = .live (.cells [.bool false] .own) := by rw [← hHx, get_put, if_neg (by omega), a2.2 _ (by omega) (by simp; omega)]; exact gr8
      rw [ew] at e4
      simp (config := { dsimp := false, maxSteps := 10000000 }) (disch := omega) only [go_sem, reduceIte, Nat.reduceEqDiff, reduceCtorEq, Nat.reduceAdd, Nat.reduceMul, Int.reduceToNat, Int.reduceLE, Int.reduceLT, Int.reduceEq, Int.reduceNe, Nat.reduceLeDiff, Int.reducePow, Nat.reducePow, Nat.reduceLT, Nat.reduceSub, Nat.reduceMod, Nat.reduceDiv, slot_neg, slot_pos, T.ag_22, T.ag_27, T.ag_3, T.ag_31, T.ag_4, T.eb_31, T.es_22, T.es_31, T.ez_31, T.gf_4, T.gf_5, T.gf_6, T.gf_7, T.gf_8, T.ib_24, T.ib_27, T.ib_3, T.ib_9, T.ii_22, T.ii_23, T.ii_31, T.ii_9, T.ip_24, T.ip_27, T.ip_3, T.ip_9, T.s8_22, T.s8_23, T.s8_31, T.s8_9, T.sl_22, T.sl_23, T.sl_31, T.sl_9, T.st_22, T.st_23, T.st_31, T.st_9, T.un_22, T.un_23, T.un_31, T.un_9, T.zo_3, T.zo_31, T.zo_4]
      (refine CodeH.of_vc [] hm (by kernel_rfl) ?_; simp (config := { dsimp := false, maxSteps := 10000000 }) (disch := omega) only [go_sem, reduceIte, Nat.reduceEqDiff, reduceCtorEq, Nat.reduceAdd, Nat.reduceMul, Int.reduceToNat, Int.reduceLE, Int.reduceLT, Int.reduceEq, Int.reduceNe, Nat.reduceLeDiff, Int.reducePow, Nat.reducePow, Nat.reduceLT, Nat.reduceSub, Nat.reduceMod, Nat.reduceDiv, slot_neg, slot_pos, T.ag_22, T.ag_27, T.ag_3, T.ag_31, T.ag_4, T.eb_31, T.es_22, T.es_31, T.ez_31, T.gf_4, T.gf_5, T.gf_6, T.gf_7, T.gf_8, T.ib_24, T.ib_27, T.ib_3, T.ib_9, T.ii_22, T.ii_23, T.ii_31, T.ii_9, T.ip_24, T.ip_27, T.ip_3, T.ip_9, T.s8_22, T.s8_23, T.s8_31, T.s8_9, T.sl_22, T.sl_23, T.sl_31, T.sl_9, T.st_22, T.st_23, T.st_31, T.st_9, T.un_22, T.un_23, T.un_31, T.un_9, T.zo_3, T.zo_31, T.zo_4, init_a, q1, q2, q11, e3, e4, e5])
    · rintro n i args H B k1 k2 hx ⟨a1, a2, a3⟩ hB hlt2
      have hi : i < ns.length := by
        have := (List.getElem?_eq_some_iff.1 hx).1; simpa using this
      have hxx : ns[i]? = some ns[i] := List.getElem?_eq_getElem hi
      rw [List.getElem?_map, List.getElem?_range hi, Option.map_some, hxx] at hx
      generalize ns[i] = y at hx hxx
      cases hx
      simp only [Option.getD_some]
      rw [show ∀ a b : Value, setP r (#[73, 74] : Array Nat).toList (#[a, b] : Array Value).toList = upd (upd r (some 73) a) (some 74) b from fun _ _ => rfl]
      refine CodeH.of_vc [] hm k1 ?_
      simp (config := { dsimp := false, maxSteps := 10000000 }) (disch := omega) only [go_sem, reduceIte, Nat.reduceEqDiff, reduceCtorEq, Nat.reduceAdd, Nat.reduceMul, Int.reduceToNat, Int.reduceLE, Int.reduceLT, Int.reduceEq, Int.reduceNe, Nat.reduceLeDiff, Int.reducePow, Nat.reducePow, Nat.reduceLT, Nat.reduceSub, Nat.reduceMod, Nat.reduceDiv, slot_neg, slot_pos, T.ag_22, T.ag_27, T.ag_3, T.ag_31, T.ag_4, T.eb_31, T.es_22, T.es_31, T.ez_31, T.gf_4, T.gf_5, T.gf_6, T.gf_7, T.gf_8, T.ib_24, T.ib_27, T.ib_3, T.ib_9, T.ii_22, T.ii_23, T.ii_31, T.ii_9, T.ip_24, T.ip_27, T.ip_3, T.ip_9, T.s8_22, T.s8_23, T.s8_31, T.s8_9, T.sl_22, T.sl_23, T.sl_31, T.sl_9, T.st_22, T.st_23, T.st_31, T.st_9, T.un_22, T.un_23, T.un_31, T.un_9, T.zo_3, T.zo_31, T.zo_4, hB]
      refine fun B' => CodeH.of_vc [] hm k2 ?_
      obtain ⟨Hb, hHb⟩ : ∃ Hb, H.put H8.next B' = Hb := ⟨_, rfl⟩
      rw [hHb]
      have e3 : Hb.get H5.next = .live (.cells [.int .i64 i] .own) := by rw [← hHb, get_put, if_neg (by omega)]; exact a3
      have eB : Hb.get H8.next = B' := by rw [← hHb, get_put, if_pos rfl]
      have hu8 : Upd H8 Hb [H5.next] := by rw [← hHb]; exact a2.put (.inr (Nat.le_refl _))
      have hnb : H8.next < Hb.next := by rw [← hHb, next_put]; exact a1
      clear hHb
      have e4 : Hb.get h.next = .live (.cells [w] .own) := (hu8.2 _ (by omega) (by simp; omega)).trans gw8
      have e6 : Hb.get a6 = .live (.cells [va] .own) := (hu8.2 _ (by omega) (by simp; omega)).trans ga8
      have hrb : RowIn nE Hb w ns := hr8.upd fun A n st e => by have := hlt A n st e; exact hu8.2 _ (by omega) (by simp; omega)
      have hOab := hOa8.upd hu8 fun d hd => by have := hla d hd; have := hU5.1; simp; omega
      have hri : rl[i]? = some ((posS ns i : Nat) : Int) := by rw [hrle, List.getElem?_map, List.getElem?_range hi]; rfl
      rcases hrb with ⟨_, hnil⟩ | ⟨qw, fw, vw, ow, ew2, hqw, hRw⟩
      · rw [hnil] at hi; simp at hi
      rcases hOab.row with ⟨_, hnil⟩ | ⟨qa, fa, wa, oa, ea2, hqa, hRa⟩
      · rw [hnil] at hrl; simp at hrl; omega
      have y1 : vw[fw + i]? = some (.int .u64 (y : Int)) := by
        have := hRw.cell hxx (j := 0) (by decide)
        simpa [nE] using this
      have y2 : wa[fa + i]? = some (.int .i64 ((posS ns i : Nat) : Int)) := by
        have := hRa.cell hri (j := 0) (by decide)
        simpa [intE] using this
      have hK1 : nE.k = 1 := rfl
      have hK2 : intE.k = 1 := rfl
      rw [ew2] at e4
      rw [ea2] at e6
      rw [hrl] at e6
      have c1 : ((ns.length : Int) ≤ (i : Int)) = False := eq_false (by omega)
      have c2 : ((i : Int) < (ns.length : Int)) = True := eq_true (by omega)
      have w1 : IntKind.i64.wrap ((i : Int) + 1) = ((i + 1 : Nat) : Int) := by rw [i64wrap] <;> omega
      simp (config := { dsimp := false, maxSteps := 10000000 }) (disch := omega) only [go_sem, reduceIte, Nat.reduceEqDiff, reduceCtorEq, Nat.reduceAdd, Nat.reduceMul, Int.reduceToNat, Int.reduceLE, Int.reduceLT, Int.reduceEq, Int.reduceNe, Nat.reduceLeDiff, Int.reducePow, Nat.reducePow, Nat.reduceLT, Nat.reduceSub, Nat.reduceMod, Nat.reduceDiv, slot_neg, slot_pos, T.ag_22, T.ag_27, T.ag_3, T.ag_31, T.ag_4, T.eb_31, T.es_22, T.es_31, T.ez_31, T.gf_4, T.gf_5, T.gf_6, T.gf_7, T.gf_8, T.ib_24, T.ib_27, T.ib_3, T.ib_9, T.ii_22, T.ii_23, T.ii_31, T.ii_9, T.ip_24, T.ip_27, T.ip_3, T.ip_9, T.s8_22, T.s8_23, T.s8_31, T.s8_9, T.sl_22, T.sl_23, T.sl_31, T.sl_9, T.st_22, T.st_23, T.st_31, T.st_9, T.un_22, T.un_23, T.un_31, T.un_9, T.zo_3, T.zo_31, T.zo_4, q1, q2, q6, q11, e3, e4, e6, hK1, hK2, hqw, hqa, y1, y2, c1, c2, w1]
      exact ⟨eB, hnb, hnb, hu8.put (.inl (by simp))⟩
end Ph
