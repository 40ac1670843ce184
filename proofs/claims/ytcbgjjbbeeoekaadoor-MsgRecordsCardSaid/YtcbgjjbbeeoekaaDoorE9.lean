import Derived.Test.YtcbgjjbbeeoekaaDoorE8
set_option maxRecDepth 100000
set_option maxHeartbeats 4000000
set_option linter.unusedSimpArgs false
set_option linter.unusedVariables false
namespace Ph
open Go Go.Proofs
attribute [local irreducible] Value.cells
attribute [local go_sem ↓] y_move y_assign y_pick y_nil y_bin y_un y_fa y_field y_ext y_ia y_ix y_slice y_build y_mf y_rg y_nx y_en y_mm y_lk y_mu y_del y_load y_len y_cap y_min y_max y_conv y_bs y_mk y_alloc y_box y_store y_clear y_app y_callf y_callt s_move s_assign s_pick s_nil s_bin s_un s_fa s_field s_ext s_ia s_ix s_slice s_conv s_build s_bs s_mf s_alloc s_box s_rg s_nx s_en s_mm s_lk s_mu s_del s_load s_store s_len s_clear s_cap s_min s_max s_app s_call q_call q_move q_assign q_pick q_nil q_bin q_un q_fa q_field q_ext q_ia q_ix q_slice q_conv q_build q_mf q_lk q_load q_len q_cap q_min q_max l_nil l_move l_assign l_pick l_nilc l_bin l_un l_fa l_field l_ext l_ia l_ix l_slice l_conv l_build l_mf l_lk l_load l_len l_cap l_min l_max l_call put_eq putN_eq o_nil o_plain o_gate v_nil v_plain v_gate vc_skip vc_region vc_seq vc_cond vc_block vc_loop vc_rf vc_exit vc_ret blk_normal blk_ret blk_exit on_normal on_ret on_exit vc_drawn draw_q s_mk l_bs l_mk l_rg l_nx l_en l_mm l_mu l_del l_alloc l_box l_store l_app l_clear pl_done pl_takeS pl_take pl_alt pl_stop one_plain one_gate
attribute [local go_sem] clear_nil clear_sl onAgg_a onTuple_t onFn_f onFn_y onFunc_f c_int c_nil c_sl c_str sl_sl sl_nil sl_str ix_str ix_agg n_nil n_sl n_str app_eq app_eqZ k_nil k_sl cap_n len_sl len_str len_mn len_m onMap_m onIter_i rg_n rg_m nx_p en_p lk_n lk_m up_m setM_n setM_s del_n del_m kt_s kt_i upd_some upd_none ev_tmp ev_const ev_func rd_some gdst_eq otmp_t otmp_c get_put get_alloc next_put next_alloc get_app next_app init_a resV1 resV2 onPtr_ptr onBool_b onInt_i onSlice_s onSome_s onCells_c lett_eq gate_tt gate_tf gate_ff gate_ft gate_dt gate_df also_eq bin un minmax io_none io_some bo_none bo_some partOf List.getElem?_cons_zero List.getElem?_cons_succ List.getElem?_toArray Option.map_some Option.map_none Option.bind_some ne_eq not_true_eq_false not_false_eq_true false_implies true_implies and_true true_and and_self Bool.false_eq_true Nat.zero_add Nat.add_zero List.size_toArray List.length_cons List.length_nil List.map_toArray List.map_cons List.map_nil Array.getD_eq_getD_getElem? Option.getD_some Bool.not_true Bool.not_false Bool.not_eq_true Option.isNone_some Option.isNone_none List.append_toArray List.append_nil List.nil_append List.cons_append decide_true decide_false in_nil in_cons Bool.and_false Bool.and_true Bool.or_false Bool.true_or Bool.false_or get_mask next_mask get_unmask next_unmask ac_move ac_assign ac_pick ac_nil ac_bin ac_un ac_fa ac_field ac_ext ac_ia ac_ix ac_slice ac_build ac_mf ac_call ac_len ac_lk ac_cap ac_min ac_max accM_m accM_n accM_s accM_t ac_load ac_conv accP_p accS_s accS_n accS_i accS_t fixed_ro fixed_lock fixed_own get_ro next_ro lock_live' lock_cells List.mem_cons List.not_mem_nil or_false false_or or_true true_or and_false false_and IntKind.bits Int.natCast_zero Int.natCast_one size_str data_str list_str mk_str ext_str app_str bytes_str w_byte w_byteu Int.toNat_natCast Int.toNat_zero Int.toNat_one Nat.sub_zero ge_iff_le gt_iff_lt Nat.le_refl Int.le_refl List.drop_zero Int.ofNat_eq_natCast Int.natCast_nonneg Int.sub_zero oc_int oc_bool oc_str oc_ptr oc_sl oc_map oc_func List.set_cons_zero List.set_cons_succ Nat.mul_one List.all_cons List.all_nil Bool.and_self res_nil res_tmp res_cell tup_one tup_two tup_nil fill_nil repl_zero cells_agg List.append_eq List.toList_toArray Nat.zero_mul Nat.one_mul repl_one repl_two onSome_build fill_cons onSome_lit splice_eq cells_int cells_bool cells_str cells_ptr cells_sl cells_map cells_func loadK_n loadK_s load_k storeK_n storeK_s store_k all_arr List.take_zero List.take_succ_cons List.drop_succ_cons List.take_nil List.drop_nil lk_own lk_ro lk_lock lk_lk fixed_lk gate_nt gate_nf gate3_b gate3_u undef Bool.true_and Bool.false_and nx_l nx_r nx_lt put_put resV0
attribute [local go_sem] str_inj size_str
/-! A part, read from bytes. -/
def lowc (c : UInt8) : UInt8 := if 65 ≤ c.toNat ∧ c.toNat ≤ 90 then UInt8.ofNat (c.toNat + 32) else c
def partS : List UInt8 → Nat → List UInt8 × Int
  | _, 0 => ([], 0)
  | [], _ + 1 => ([], 3)
  | c :: r, n + 1 => if letB (lowc c) = true then (if (partS r n).2 = 0 then (lowc c :: (partS r n).1, 0) else ([], (partS r n).2)) else ([], 14)
def preP (o : List UInt8) (x : List UInt8 × Int) : List UInt8 × Int := if x.2 = 0 then (o ++ x.1, 0) else ([], x.2)
theorem preP_step {o : List UInt8} {c : UInt8} {r : List UInt8} {n : Nat} (hl : letB (lowc c) = true) : preP o (partS (c :: r) (n + 1)) = preP (o ++ [lowc c]) (partS r n) := by
  rw [partS, if_pos hl]
  unfold preP
  by_cases h : (partS r n).2 = 0
  · rw [if_pos h, if_pos rfl, if_pos h]; simp
  · rw [if_neg h, if_neg h, if_neg h]
theorem index_let (c : UInt8) : (Go.Lib.indexByte letters c < 0) = (letB c = false) := by
  have key : ∀ n : Fin 256, decide (Go.Lib.indexByte letters (UInt8.ofNat n.val) < 0) = !letB (UInt8.ofNat n.val) := by decide +kernel
  have h := key ⟨c.toNat, c.toNat_lt⟩
  simp only [UInt8.ofNat_toNat] at h
  apply propext
  rw [show (Go.Lib.indexByte letters c < 0) = (decide (Go.Lib.indexByte letters c < 0) = true) from by simp, h]
  cases letB c <;> simp
theorem partS_nil : ∀ (l : List UInt8) (k : Nat), (partS l k).2 ≠ 0 → (partS l k).1 = []
  | _, 0 => fun h => (by unfold partS at h; exact absurd rfl h)
  | [], k + 1 => fun _ => rfl
  | c :: r, k + 1 => fun h => by
    rw [partS] at h ⊢
    by_cases h1 : letB (lowc c) = true
    · rw [if_pos h1] at h ⊢
      by_cases h2 : (partS r k).2 = 0
      · rw [if_pos h2] at h; exact absurd rfl h
      · rw [if_neg h2]
    · rw [if_neg h1]
theorem preP_nil (l : List UInt8) (k : Nat) : preP [] (partS l k) = partS l k := by
  unfold preP
  by_cases h : (partS l k).2 = 0
  · rw [if_pos h]; exact Prod.ext rfl h.symm
  · rw [if_neg h]; exact Prod.ext (partS_nil l k h).symm rfl
theorem part_ph (h : Heap) (v : Value) (bs : List UInt8) (n : Nat) (hr : RowIn u8E h v bs) (hn : n ≤ 255) (hlt : ∀ A k st, v = .slice (some A) k st → A.block < h.next) :
    @CallsH Tryd.prog 27 #[v, .int .i64 (n : Int)] h ⟨fun u H => u = .tuple #[.string (str (partS bs n).1), .int .i64 (partS bs n).2] ∧ Upd h H []⟩ := by
  obtain ⟨A, st, hv⟩ := hr.form
  have ho := hr.one
  (refine calls_of_vc [] hm Tryd.func27 rfl (ts := [4, 5]) rfl (by kernel_rfl) (by simp) ?_; simp (config := { dsimp := false, maxSteps := 10000000 }) (disch := omega) only [go_sem, reduceIte, Nat.reduceEqDiff, reduceCtorEq, Nat.reduceAdd, Nat.reduceMul, Int.reduceToNat, Int.reduceLE, Int.reduceLT, Int.reduceEq, Int.reduceNe, Nat.reduceLeDiff, Int.reducePow, Nat.reducePow, Nat.reduceLT, Nat.reduceSub, Nat.reduceMod, Nat.reduceDiv, slot_neg, slot_pos, T.ag_5, T.eb_32, T.es_32, T.ez_32, T.gf_40, T.ib_3, T.ib_5, T.ii_32, T.ii_9, T.ip_3, T.ip_5, T.s8_32, T.s8_9, T.sl_32, T.sl_9, T.st_32, T.st_9, T.un_32, T.un_9, init_a, ho.1, ho.2])
  refine loop_intro [] hm (fun r H => ∃ (i : Nat) (w : Value) (D : List Nat) (o : List UInt8), i ≤ n ∧ o.length = i ∧ r 0 = v ∧ r 6 = w ∧ r 9 = .int .i64 (n : Int) ∧ r 10 = .int .i64 (i : Int) ∧ OwnRow u8E H w D o ∧ (∀ d ∈ D, h.next ≤ d) ∧ Upd h H [] ∧ partS bs n = preP o (partS (bs.drop i) (n - i))) (fun r _ => match r 10 with | .int _ i => n - i.toNat | _ => 0) ?_ ?_
  · refine ⟨0, _, [], [], by omega, rfl, by simp [upd, initR], by simp [upd, initR], by simp [upd, initR], by simp [upd], OwnRow.nil _, by simp, Upd.refl _ _, ?_⟩
    exact (preP_nil bs n).symm
  · rintro r H ⟨i, w, D, o, hi, hol, q0, q6, q9, q10, hO, hD, hU, hp⟩
    have how := hO.row.one
    by_cases hin : i < n
    · have c1 : ((i : Int) < (n : Int)) = True := eq_true (by omega)
      have wi : IntKind.i64.wrap ((i : Int) + 1) = ((i + 1 : Nat) : Int) := by rw [i64wrap] <;> omega
      obtain ⟨m, hm0⟩ : ∃ m, n - i = m + 1 := ⟨n - i - 1, by omega⟩
      rw [hm0] at hp
      by_cases hib : i < bs.length
      · have c2 : ((bs.length : Int) ≤ (i : Int)) = False := eq_false (by omega)
        rw [drop_more hib] at hp
        rcases hr with ⟨_, h0⟩ | ⟨q, off, vs, ow, hv', hg, hR⟩
        · rw [h0] at hib; simp at hib
        have hqn := hlt _ _ _ hv'
        have hb := hR.cell (List.getElem?_eq_getElem hib) (j := 0) Nat.zero_lt_one
        rw [show u8E.k = 1 from rfl, Nat.mul_one, Nat.add_zero, show bs[i] = bs.getD i 0 from by simp [List.getElem?_eq_getElem hib]] at hb
        rw [show u8E.k = 1 from rfl] at hv'
        generalize bs.getD i 0 = c at *
        have hb' : vs[off + i]? = some (.int .u8 (c.toNat : Int)) := hb
        have hg2 := (hU.2 q hqn (by simp)).trans hg
        have hc := c.toNat_lt
        have hfit : m = n - (i + 1) := by omega
        by_cases hup : 65 ≤ c.toNat ∧ c.toNat ≤ 90
        · have hlow : lowc c = UInt8.ofNat (c.toNat + 32) := by unfold lowc; rw [if_pos hup]
          have d1 : ((65 : Int) ≤ (c.toNat : Int)) = True := eq_true (by omega)
          have d2 : ((c.toNat : Int) ≤ 90) = True := eq_true (by omega)
          have w8 : IntKind.u8.wrap ((c.toNat : Int) + 32) = ((lowc c).toNat : Int) := by rw [u8wrap (by omega) (by omega), hlow]; simp; omega
          simp (config := { dsimp := false, maxSteps := 10000000 }) (disch := omega) only [go_sem, reduceIte, Nat.reduceEqDiff, reduceCtorEq, Nat.reduceAdd, Nat.reduceMul, Int.reduceToNat, Int.reduceLE, Int.reduceLT, Int.reduceEq, Int.reduceNe, Nat.reduceLeDiff, Int.reducePow, Nat.reducePow, Nat.reduceLT, Nat.reduceSub, Nat.reduceMod, Nat.reduceDiv, slot_neg, slot_pos, T.ag_5, T.eb_32, T.es_32, T.ez_32, T.gf_40, T.ib_3, T.ib_5, T.ii_32, T.ii_9, T.ip_3, T.ip_5, T.s8_32, T.s8_9, T.sl_32, T.sl_9, T.st_32, T.st_9, T.un_32, T.un_9, q0, q6, q9, q10, c1, c2, hv', hg2, hb', d1, d2, w8, how.1, how.2]
          refine ⟨by omega, CallsH.pure _ rfl ((Index_ph _ letters (lowc c)).mono fun _ _ h => h.1) ?_⟩
          by_cases hlb : letB (lowc c) = true
          · have d3 : (Go.Lib.indexByte letters (lowc c) < 0) = False := by rw [index_let, hlb]; simp
            rw [preP_step hlb] at hp
            simp (config := { dsimp := false, maxSteps := 10000000 }) (disch := omega) only [go_sem, reduceIte, Nat.reduceEqDiff, reduceCtorEq, Nat.reduceAdd, Nat.reduceMul, Int.reduceToNat, Int.reduceLE, Int.reduceLT, Int.reduceEq, Int.reduceNe, Nat.reduceLeDiff, Int.reducePow, Nat.reducePow, Nat.reduceLT, Nat.reduceSub, Nat.reduceMod, Nat.reduceDiv, slot_neg, slot_pos, T.ag_5, T.eb_32, T.es_32, T.ez_32, T.gf_40, T.ib_3, T.ib_5, T.ii_32, T.ii_9, T.ip_3, T.ip_5, T.s8_32, T.s8_9, T.sl_32, T.sl_9, T.st_32, T.st_9, T.un_32, T.un_9, q0, q6, q9, q10, d3, how.1, how.2]
            refine app_own (E := u8E) (ns := [lowc c]) (hO.upd (Upd.alloc _ _ []) (by simp)) rfl rfl rfl (by simp only [List.length_singleton]; omega) fun u5 H5 D5 hO5 hU5 hD5 => ?_
            have ho5 := hO5.row.one
            simp (config := { dsimp := false, maxSteps := 10000000 }) (disch := omega) only [go_sem, reduceIte, Nat.reduceEqDiff, reduceCtorEq, Nat.reduceAdd, Nat.reduceMul, Int.reduceToNat, Int.reduceLE, Int.reduceLT, Int.reduceEq, Int.reduceNe, Nat.reduceLeDiff, Int.reducePow, Nat.reducePow, Nat.reduceLT, Nat.reduceSub, Nat.reduceMod, Nat.reduceDiv, slot_neg, slot_pos, T.ag_5, T.eb_32, T.es_32, T.ez_32, T.gf_40, T.ib_3, T.ib_5, T.ii_32, T.ii_9, T.ip_3, T.ip_5, T.s8_32, T.s8_9, T.sl_32, T.sl_9, T.st_32, T.st_9, T.un_32, T.un_9, q0, q6, q9, q10, wi, ho5.1, ho5.2]
            have n1 := hU.1
            refine ⟨⟨i + 1, u5, D5, o ++ [lowc c], hin, by rw [List.length_append, hol]; rfl, rfl, rfl, hO5, fun d h9 => ?_, (hU.trans (Upd.alloc _ _ []) (by simp)).trans hU5 fun d h9 => .inr (hD d h9), by rw [hp, hfit]⟩, by omega⟩
            rcases hD5 d h9 with h8 | h8
            · exact hD d h8
            · have h7 : H.next + 1 ≤ d := h8
              omega
          · have hlb' : letB (lowc c) = false := Bool.eq_false_iff.mpr hlb
            have d3 : (Go.Lib.indexByte letters (lowc c) < 0) = True := by rw [index_let]; exact eq_true hlb'
            rw [partS, if_neg hlb] at hp
            simp (config := { dsimp := false, maxSteps := 10000000 }) (disch := omega) only [go_sem, reduceIte, Nat.reduceEqDiff, reduceCtorEq, Nat.reduceAdd, Nat.reduceMul, Int.reduceToNat, Int.reduceLE, Int.reduceLT, Int.reduceEq, Int.reduceNe, Nat.reduceLeDiff, Int.reducePow, Nat.reducePow, Nat.reduceLT, Nat.reduceSub, Nat.reduceMod, Nat.reduceDiv, slot_neg, slot_pos, T.ag_5, T.eb_32, T.es_32, T.ez_32, T.gf_40, T.ib_3, T.ib_5, T.ii_32, T.ii_9, T.ip_3, T.ip_5, T.s8_32, T.s8_9, T.sl_32, T.sl_9, T.st_32, T.st_9, T.un_32, T.un_9, q0, q6, q9, q10, d3, hp, preP]
            exact hU
        · have hlow : lowc c = c := by unfold lowc; rw [if_neg hup]
          by_cases h65 : (65 : Int) ≤ (c.toNat : Int)
          · have d2 : ((c.toNat : Int) ≤ 90) = False := eq_false (by omega)
            have d1 := eq_true h65
            simp (config := { dsimp := false, maxSteps := 10000000 }) (disch := omega) only [go_sem, reduceIte, Nat.reduceEqDiff, reduceCtorEq, Nat.reduceAdd, Nat.reduceMul, Int.reduceToNat, Int.reduceLE, Int.reduceLT, Int.reduceEq, Int.reduceNe, Nat.reduceLeDiff, Int.reducePow, Nat.reducePow, Nat.reduceLT, Nat.reduceSub, Nat.reduceMod, Nat.reduceDiv, slot_neg, slot_pos, T.ag_5, T.eb_32, T.es_32, T.ez_32, T.gf_40, T.ib_3, T.ib_5, T.ii_32, T.ii_9, T.ip_3, T.ip_5, T.s8_32, T.s8_9, T.sl_32, T.sl_9, T.st_32, T.st_9, T.un_32, T.un_9, q0, q6, q9, q10, c1, c2, hv', hg2, hb', d1, d2, how.1, how.2]
            rw [← hlow]
            refine ⟨by omega, CallsH.pure _ rfl ((Index_ph _ letters (lowc c)).mono fun _ _ h => h.1) ?_⟩
            by_cases hlb : letB (lowc c) = true
            · have d3 : (Go.Lib.indexByte letters (lowc c) < 0) = False := by rw [index_let, hlb]; simp
              rw [preP_step hlb] at hp
              simp (config := { dsimp := false, maxSteps := 10000000 }) (disch := omega) only [go_sem, reduceIte, Nat.reduceEqDiff, reduceCtorEq, Nat.reduceAdd, Nat.reduceMul, Int.reduceToNat, Int.reduceLE, Int.reduceLT, Int.reduceEq, Int.reduceNe, Nat.reduceLeDiff, Int.reducePow, Nat.reducePow, Nat.reduceLT, Nat.reduceSub, Nat.reduceMod, Nat.reduceDiv, slot_neg, slot_pos, T.ag_5, T.eb_32, T.es_32, T.ez_32, T.gf_40, T.ib_3, T.ib_5, T.ii_32, T.ii_9, T.ip_3, T.ip_5, T.s8_32, T.s8_9, T.sl_32, T.sl_9, T.st_32, T.st_9, T.un_32, T.un_9, q0, q6, q9, q10, d3, how.1, how.2]
              refine app_own (E := u8E) (ns := [lowc c]) (hO.upd (Upd.alloc _ _ []) (by simp)) rfl rfl rfl (by simp only [List.length_singleton]; omega) fun u5 H5 D5 hO5 hU5 hD5 => ?_
              have ho5 := hO5.row.one
              simp (config := { dsimp := false, maxSteps := 10000000 }) (disch := omega) only [go_sem, reduceIte, Nat.reduceEqDiff, reduceCtorEq, Nat.reduceAdd, Nat.reduceMul, Int.reduceToNat, Int.reduceLE, Int.reduceLT, Int.reduceEq, Int.reduceNe, Nat.reduceLeDiff, Int.reducePow, Nat.reducePow, Nat.reduceLT, Nat.reduceSub, Nat.reduceMod, Nat.reduceDiv, slot_neg, slot_pos, T.ag_5, T.eb_32, T.es_32, T.ez_32, T.gf_40, T.ib_3, T.ib_5, T.ii_32, T.ii_9, T.ip_3, T.ip_5, T.s8_32, T.s8_9, T.sl_32, T.sl_9, T.st_32, T.st_9, T.un_32, T.un_9, q0, q6, q9, q10, wi, ho5.1, ho5.2]
              have n1 := hU.1
              refine ⟨⟨i + 1, u5, D5, o ++ [lowc c], hin, by rw [List.length_append, hol]; rfl, rfl, rfl, hO5, fun d h9 => ?_, (hU.trans (Upd.alloc _ _ []) (by simp)).trans hU5 fun d h9 => .inr (hD d h9), by rw [hp, hfit]⟩, by omega⟩
              rcases hD5 d h9 with h8 | h8
              · exact hD d h8
              · have h7 : H.next + 1 ≤ d := h8
                omega
            · have hlb' : letB (lowc c) = false := Bool.eq_false_iff.mpr hlb
              have d3 : (Go.Lib.indexByte letters (lowc c) < 0) = True := by rw [index_let]; exact eq_true hlb'
              rw [partS, if_neg hlb] at hp
              simp (config := { dsimp := false, maxSteps := 10000000 }) (disch := omega) only [go_sem, reduceIte, Nat.reduceEqDiff, reduceCtorEq, Nat.reduceAdd, Nat.reduceMul, Int.reduceToNat, Int.reduceLE, Int.reduceLT, Int.reduceEq, Int.reduceNe, Nat.reduceLeDiff, Int.reducePow, Nat.reducePow, Nat.reduceLT, Nat.reduceSub, Nat.reduceMod, Nat.reduceDiv, slot_neg, slot_pos, T.ag_5, T.eb_32, T.es_32, T.ez_32, T.gf_40, T.ib_3, T.ib_5, T.ii_32, T.ii_9, T.ip_3, T.ip_5, T.s8_32, T.s8_9, T.sl_32, T.sl_9, T.st_32, T.st_9, T.un_32, T.un_9, q0, q6, q9, q10, d3, hp, preP]
              exact hU
          · have d1 := eq_false h65
            simp (config := { dsimp := false, maxSteps := 10000000 }) (disch := omega) only [go_sem, reduceIte, Nat.reduceEqDiff, reduceCtorEq, Nat.reduceAdd, Nat.reduceMul, Int.reduceToNat, Int.reduceLE, Int.reduceLT, Int.reduceEq, Int.reduceNe, Nat.reduceLeDiff, Int.reducePow, Nat.reducePow, Nat.reduceLT, Nat.reduceSub, Nat.reduceMod, Nat.reduceDiv, slot_neg, slot_pos, T.ag_5, T.eb_32, T.es_32, T.ez_32, T.gf_40, T.ib_3, T.ib_5, T.ii_32, T.ii_9, T.ip_3, T.ip_5, T.s8_32, T.s8_9, T.sl_32, T.sl_9, T.st_32, T.st_9, T.un_32, T.un_9, q0, q6, q9, q10, c1, c2, hv', hg2, hb', d1, how.1, how.2]
            rw [← hlow]
            refine ⟨by omega, CallsH.pure _ rfl ((Index_ph _ letters (lowc c)).mono fun _ _ h => h.1) ?_⟩
            by_cases hlb : letB (lowc c) = true
            · have d3 : (Go.Lib.indexByte letters (lowc c) < 0) = False := by rw [index_let, hlb]; simp
              rw [preP_step hlb] at hp
              simp (config := { dsimp := false, maxSteps := 10000000 }) (disch := omega) only [go_sem, reduceIte, Nat.reduceEqDiff, reduceCtorEq, Nat.reduceAdd, Nat.reduceMul, Int.reduceToNat, Int.reduceLE, Int.reduceLT, Int.reduceEq, Int.reduceNe, Nat.reduceLeDiff, Int.reducePow, Nat.reducePow, Nat.reduceLT, Nat.reduceSub, Nat.reduceMod, Nat.reduceDiv, slot_neg, slot_pos, T.ag_5, T.eb_32, T.es_32, T.ez_32, T.gf_40, T.ib_3, T.ib_5, T.ii_32, T.ii_9, T.ip_3, T.ip_5, T.s8_32, T.s8_9, T.sl_32, T.sl_9, T.st_32, T.st_9, T.un_32, T.un_9, q0, q6, q9, q10, d3, how.1, how.2]
              refine app_own (E := u8E) (ns := [lowc c]) (hO.upd (Upd.alloc _ _ []) (by simp)) rfl rfl rfl (by simp only [List.length_singleton]; omega) fun u5 H5 D5 hO5 hU5 hD5 => ?_
              have ho5 := hO5.row.one
              simp (config := { dsimp := false, maxSteps := 10000000 }) (disch := omega) only [go_sem, reduceIte, Nat.reduceEqDiff, reduceCtorEq, Nat.reduceAdd, Nat.reduceMul, Int.reduceToNat, Int.reduceLE, Int.reduceLT, Int.reduceEq, Int.reduceNe, Nat.reduceLeDiff, Int.reducePow, Nat.reducePow, Nat.reduceLT, Nat.reduceSub, Nat.reduceMod, Nat.reduceDiv, slot_neg, slot_pos, T.ag_5, T.eb_32, T.es_32, T.ez_32, T.gf_40, T.ib_3, T.ib_5, T.ii_32, T.ii_9, T.ip_3, T.ip_5, T.s8_32, T.s8_9, T.sl_32, T.sl_9, T.st_32, T.st_9, T.un_32, T.un_9, q0, q6, q9, q10, wi, ho5.1, ho5.2]
              have n1 := hU.1
              refine ⟨⟨i + 1, u5, D5, o ++ [lowc c], hin, by rw [List.length_append, hol]; rfl, rfl, rfl, hO5, fun d h9 => ?_, (hU.trans (Upd.alloc _ _ []) (by simp)).trans hU5 fun d h9 => .inr (hD d h9), by rw [hp, hfit]⟩, by omega⟩
              rcases hD5 d h9 with h8 | h8
              · exact hD d h8
              · have h7 : H.next + 1 ≤ d := h8
                omega
            · have hlb' : letB (lowc c) = false := Bool.eq_false_iff.mpr hlb
              have d3 : (Go.Lib.indexByte letters (lowc c) < 0) = True := by rw [index_let]; exact eq_true hlb'
              rw [partS, if_neg hlb] at hp
              simp (config := { dsimp := false, maxSteps := 10000000 }) (disch := omega) only [go_sem, reduceIte, Nat.reduceEqDiff, reduceCtorEq, Nat.reduceAdd, Nat.reduceMul, Int.reduceToNat, Int.reduceLE, Int.reduceLT, Int.reduceEq, Int.reduceNe, Nat.reduceLeDiff, Int.reducePow, Nat.reducePow, Nat.reduceLT, Nat.reduceSub, Nat.reduceMod, Nat.reduceDiv, slot_neg, slot_pos, T.ag_5, T.eb_32, T.es_32, T.ez_32, T.gf_40, T.ib_3, T.ib_5, T.ii_32, T.ii_9, T.ip_3, T.ip_5, T.s8_32, T.s8_9, T.sl_32, T.sl_9, T.st_32, T.st_9, T.un_32, T.un_9, q0, q6, q9, q10, d3, hp, preP]
              exact hU
      · have c2 : ((bs.length : Int) ≤ (i : Int)) = True := eq_true (by omega)
        rw [List.drop_eq_nil_of_le (by omega), partS] at hp
        simp (config := { dsimp := false, maxSteps := 10000000 }) (disch := omega) only [go_sem, reduceIte, Nat.reduceEqDiff, reduceCtorEq, Nat.reduceAdd, Nat.reduceMul, Int.reduceToNat, Int.reduceLE, Int.reduceLT, Int.reduceEq, Int.reduceNe, Nat.reduceLeDiff, Int.reducePow, Nat.reducePow, Nat.reduceLT, Nat.reduceSub, Nat.reduceMod, Nat.reduceDiv, slot_neg, slot_pos, T.ag_5, T.eb_32, T.es_32, T.ez_32, T.gf_40, T.ib_3, T.ib_5, T.ii_32, T.ii_9, T.ip_3, T.ip_5, T.s8_32, T.s8_9, T.sl_32, T.sl_9, T.st_32, T.st_9, T.un_32, T.un_9, q0, q6, q9, q10, c1, c2, hv, hp, preP]
        exact hU
    · obtain rfl : i = n := by omega
      have c1 : ((i : Int) < (i : Int)) = False := eq_false (by omega)
      rw [Nat.sub_self, show partS (bs.drop i) 0 = ([], 0) from by unfold partS; rfl] at hp
      rcases hO with ⟨e1, e2, _⟩ | ⟨q2, off2, vs2, _, hq2, e1, hg2, hR2⟩
      · subst e1 e2
        simp (config := { dsimp := false, maxSteps := 10000000 }) (disch := omega) only [go_sem, reduceIte, Nat.reduceEqDiff, reduceCtorEq, Nat.reduceAdd, Nat.reduceMul, Int.reduceToNat, Int.reduceLE, Int.reduceLT, Int.reduceEq, Int.reduceNe, Nat.reduceLeDiff, Int.reducePow, Nat.reducePow, Nat.reduceLT, Nat.reduceSub, Nat.reduceMod, Nat.reduceDiv, slot_neg, slot_pos, T.ag_5, T.eb_32, T.es_32, T.ez_32, T.gf_40, T.ib_3, T.ib_5, T.ii_32, T.ii_9, T.ip_3, T.ip_5, T.s8_32, T.s8_9, T.sl_32, T.sl_9, T.st_32, T.st_9, T.un_32, T.un_9, q0, q6, q9, q10, c1, hp, preP, str_empty]
        exact hU
      · have r2 : List.take o.length (List.drop off2 vs2) = bc o := by have := hR2.2; rw [u8_flat, show u8E.k = 1 from rfl, Nat.mul_one] at this; exact this
        have l2 : off2 + o.length ≤ vs2.length := by have := hR2.1; rw [show u8E.k = 1 from rfl, Nat.mul_one] at this; exact this
        rw [show u8E.k = 1 from rfl] at e1
        subst e1
        simp (config := { dsimp := false, maxSteps := 10000000 }) (disch := omega) only [go_sem, reduceIte, Nat.reduceEqDiff, reduceCtorEq, Nat.reduceAdd, Nat.reduceMul, Int.reduceToNat, Int.reduceLE, Int.reduceLT, Int.reduceEq, Int.reduceNe, Nat.reduceLeDiff, Int.reducePow, Nat.reducePow, Nat.reduceLT, Nat.reduceSub, Nat.reduceMod, Nat.reduceDiv, slot_neg, slot_pos, T.ag_5, T.eb_32, T.es_32, T.ez_32, T.gf_40, T.ib_3, T.ib_5, T.ii_32, T.ii_9, T.ip_3, T.ip_5, T.s8_32, T.s8_9, T.sl_32, T.sl_9, T.st_32, T.st_9, T.un_32, T.un_9, q0, q6, q9, q10, c1, hp, preP, hg2, r2, bc_val]
        exact ⟨l2, hU⟩
end Ph
