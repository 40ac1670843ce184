import Derived.Test.YtcbgjjbbeeoekaaDoorE3
set_option maxRecDepth 100000
set_option maxHeartbeats 4000000
set_option linter.unusedSimpArgs false
set_option linter.unusedVariables false
namespace Ph
open Go Go.Proofs
attribute [local irreducible] Value.cells
attribute [local go_sem ↓] y_move y_assign y_pick y_nil y_bin y_un y_fa y_field y_ext y_ia y_ix y_slice y_build y_mf y_rg y_nx y_en y_mm y_lk y_mu y_del y_load y_len y_cap y_min y_max y_conv y_bs y_mk y_alloc y_box y_store y_clear y_app y_callf y_callt s_move s_assign s_pick s_nil s_bin s_un s_fa s_field s_ext s_ia s_ix s_slice s_conv s_build s_bs s_mf s_alloc s_box s_rg s_nx s_en s_mm s_lk s_mu s_del s_load s_store s_len s_clear s_cap s_min s_max s_app s_call q_call q_move q_assign q_pick q_nil q_bin q_un q_fa q_field q_ext q_ia q_ix q_slice q_conv q_build q_mf q_lk q_load q_len q_cap q_min q_max l_nil l_move l_assign l_pick l_nilc l_bin l_un l_fa l_field l_ext l_ia l_ix l_slice l_conv l_build l_mf l_lk l_load l_len l_cap l_min l_max l_call put_eq putN_eq o_nil o_plain o_gate v_nil v_plain v_gate vc_skip vc_region vc_seq vc_cond vc_block vc_loop vc_rf vc_exit vc_ret blk_normal blk_ret blk_exit on_normal on_ret on_exit vc_drawn draw_q s_mk l_bs l_mk l_rg l_nx l_en l_mm l_mu l_del l_alloc l_box l_store l_app l_clear pl_done pl_takeS pl_take pl_alt pl_stop one_plain one_gate
attribute [local go_sem] clear_nil clear_sl onAgg_a onTuple_t onFn_f onFn_y onFunc_f c_int c_nil c_sl c_str sl_sl sl_nil sl_str ix_str ix_agg n_nil n_sl n_str app_eq app_eqZ k_nil k_sl cap_n len_sl len_str len_mn len_m onMap_m onIter_i rg_n rg_m nx_p en_p lk_n lk_m up_m setM_n setM_s del_n del_m kt_s kt_i upd_some upd_none ev_tmp ev_const ev_func rd_some gdst_eq otmp_t otmp_c get_put get_alloc next_put next_alloc get_app next_app init_a resV1 resV2 onPtr_ptr onBool_b onInt_i onSlice_s onSome_s onCells_c lett_eq gate_tt gate_tf gate_ff gate_ft gate_dt gate_df also_eq bin un minmax io_none io_some bo_none bo_some partOf List.getElem?_cons_zero List.getElem?_cons_succ List.getElem?_toArray Option.map_some Option.map_none Option.bind_some ne_eq not_true_eq_false not_false_eq_true false_implies true_implies and_true true_and and_self Bool.false_eq_true Nat.zero_add Nat.add_zero List.size_toArray List.length_cons List.length_nil List.map_toArray List.map_cons List.map_nil Array.getD_eq_getD_getElem? Option.getD_some Bool.not_true Bool.not_false Bool.not_eq_true Option.isNone_some Option.isNone_none List.append_toArray List.append_nil List.nil_append List.cons_append decide_true decide_false in_nil in_cons Bool.and_false Bool.and_true Bool.or_false Bool.true_or Bool.false_or get_mask next_mask get_unmask next_unmask ac_move ac_assign ac_pick ac_nil ac_bin ac_un ac_fa ac_field ac_ext ac_ia ac_ix ac_slice ac_build ac_mf ac_call ac_len ac_lk ac_cap ac_min ac_max accM_m accM_n accM_s accM_t ac_load ac_conv accP_p accS_s accS_n accS_i accS_t fixed_ro fixed_lock fixed_own get_ro next_ro lock_live' lock_cells List.mem_cons List.not_mem_nil or_false false_or or_true true_or and_false false_and IntKind.bits Int.natCast_zero Int.natCast_one size_str data_str list_str mk_str ext_str app_str bytes_str w_byte w_byteu Int.toNat_natCast Int.toNat_zero Int.toNat_one Nat.sub_zero ge_iff_le gt_iff_lt Nat.le_refl Int.le_refl List.drop_zero Int.ofNat_eq_natCast Int.natCast_nonneg Int.sub_zero oc_int oc_bool oc_str oc_ptr oc_sl oc_map oc_func List.set_cons_zero List.set_cons_succ Nat.mul_one List.all_cons List.all_nil Bool.and_self res_nil res_tmp res_cell tup_one tup_two tup_nil fill_nil repl_zero cells_agg List.append_eq List.toList_toArray Nat.zero_mul Nat.one_mul repl_one repl_two onSome_build fill_cons onSome_lit splice_eq cells_int cells_bool cells_str cells_ptr cells_sl cells_map cells_func loadK_n loadK_s load_k storeK_n storeK_s store_k all_arr List.take_zero List.take_succ_cons List.drop_succ_cons List.take_nil List.drop_nil lk_own lk_ro lk_lock lk_lk fixed_lk gate_nt gate_nf gate3_b gate3_u undef Bool.true_and Bool.false_and nx_l nx_r nx_lt put_put resV0
attribute [local go_sem] str_inj size_str
/-! Rows of bytes; a name's bytes. -/
def u8E : Enc UInt8 := ⟨1, fun b => [.int .u8 (b.toNat : Int)], fun _ => rfl, fun _ => rfl⟩
theorem u8_flat (l : List UInt8) : u8E.flat l = bc l := by
  induction l with
  | nil => rfl
  | cons b l ih => rw [flat_cons, ih]; rfl
theorem RowIn.slb {h : Heap} {v : Value} {l : List UInt8} (hr : RowIn u8E h v l) : SlB h v l := by
  rcases hr with hr | ⟨q, off, vs, o, h1, h2, h3⟩
  · exact .inl hr
  · refine .inr ⟨q, off, vs, o, h1, h2, ?_, ?_⟩
    · have := h3.2
      rw [show u8E.k = 1 from rfl, Nat.mul_one, u8_flat] at this
      exact this
    · have := h3.1
      rw [show u8E.k = 1 from rfl, Nat.mul_one] at this
      exact this
theorem SlB.row {h : Heap} {v : Value} {l : List UInt8} (hs : SlB h v l) : RowIn u8E h v l := by
  rcases hs with hs | ⟨i, o, vs, q, h1, h2, h3, h4⟩
  · exact .inl hs
  · exact .inr ⟨i, o, vs, q, h1, h2, by rw [show u8E.k = 1 from rfl, Nat.mul_one]; exact h4, by rw [show u8E.k = 1 from rfl, Nat.mul_one, u8_flat]; exact h3⟩
def wireP (ps : List (List UInt8)) : List UInt8 := ps.flatMap fun p => UInt8.ofNat p.length :: p
def wireS (l : List UInt8) : Option (List UInt8) := (nameOf l).map fun ps => wireP ps ++ [0]
theorem parts_ok : ∀ (l cur : List UInt8) (ps : List (List UInt8)), partsOf l cur = some ps → cur.all letB = true → ∀ p ∈ ps, okPart p = true := by
  intro l
  induction l with
  | nil =>
    intro cur ps h _ p hp
    rw [partsOf] at h
    split at h
    · cases h; cases hp
    · cases h
  | cons c r ih =>
    intro cur ps h hc p hp
    rw [partsOf] at h
    split at h
    · split at h
      · cases h
      · rename_i h46 hb
        obtain ⟨qs, hq, rfl⟩ := Option.map_eq_some_iff.1 h
        rcases List.mem_cons.1 hp with rfl | hp
        · simp only [okPart, hc]; simp; exact ⟨fun e => hb (.inl e), by have := fun e => hb (.inr e); omega⟩
        · exact ih [] qs hq rfl p hp
    · split at h
      · rename_i h46 hl
        exact ih _ ps h (by rw [List.all_append, hc]; simp [hl]) p hp
      · cases h
theorem name_ok {l : List UInt8} {ps : List (List UInt8)} (h : nameOf l = some ps) : l.length ≤ 254 ∧ ∀ p ∈ ps, okPart p = true := by
  unfold nameOf at h
  split at h
  · rename_i e; cases h; subst e; exact ⟨by decide, by simp⟩
  · split at h
    · cases h
    · rename_i h0
      exact ⟨by have := fun e => h0 (.inr e); omega, parts_ok l [] ps h rfl⟩
theorem ok_len {p : List UInt8} (h : okPart p = true) : p.length ≤ 63 ∧ p ≠ [] ∧ p.all letB = true := by
  unfold okPart at h
  simp only [Bool.and_eq_true, decide_eq_true_eq] at h
  exact ⟨h.2.1, h.1, h.2.2⟩
/-- how long the parts are, all together -/
theorem parts_len : ∀ (l cur : List UInt8) (ps : List (List UInt8)), partsOf l cur = some ps → (ps.map fun p => p.length + 1).sum = l.length + cur.length := by
  intro l
  induction l with
  | nil =>
    intro cur ps h
    rw [partsOf] at h
    split at h
    · rename_i e; cases h; subst e; rfl
    · cases h
  | cons c r ih =>
    intro cur ps h
    rw [partsOf] at h
    split at h
    · split at h
      · cases h
      · obtain ⟨qs, hq, rfl⟩ := Option.map_eq_some_iff.1 h
        have := ih [] qs hq
        simp at this ⊢
        omega
    · split at h
      · have := ih _ ps h
        simp at this ⊢
        omega
      · cases h
theorem name_len {l : List UInt8} {ps : List (List UInt8)} (h : nameOf l = some ps) : (ps.map fun p => p.length + 1).sum ≤ 254 := by
  have h2 := (name_ok h).1
  unfold nameOf at h
  split at h
  · cases h; decide
  · split at h
    · cases h
    · have := parts_len l [] ps h
      simp at this ⊢
      omega
theorem wireP_len (ps : List (List UInt8)) : (wireP ps).length = (ps.map fun p => p.length + 1).sum := by
  unfold wireP
  rw [List.length_flatMap]
  simp
theorem sum_take (f : List UInt8 → Nat) : ∀ (ps : List (List UInt8)) (i : Nat), ((ps.take i).map f).sum ≤ (ps.map f).sum
  | [], i => by simp
  | p :: ps, 0 => by simp
  | p :: ps, i + 1 => by have := sum_take f ps i; simp at this ⊢; omega
theorem count_le : ∀ (ps : List (List UInt8)), ps.length ≤ (ps.map fun p => p.length + 1).sum
  | [] => by simp
  | p :: ps => by have := count_le ps; simp at this ⊢; omega
theorem Wire_ph (h : Heap) (l : List UInt8) (hl : l.length < 9223372036854775807) :
    @CallsH Tryd.prog 39 #[.string (str l)] h ⟨fun u H => Upd h H [] ∧ match wireS l with
      | none => u = .tuple #[.slice none 0 0, .int .i64 14]
      | some bs => ∃ v D, u = .tuple #[v, .int .i64 0] ∧ OwnRow u8E H v D bs ∧ ∀ d ∈ D, h.next ≤ d⟩ := by
  unfold wireS
  (refine calls_of_vc [] hm Tryd.func39 rfl (ts := [2, 3]) rfl (by kernel_rfl) (by simp) ?_; simp (config := { dsimp := false, maxSteps := 10000000 }) (disch := omega) only [go_sem, reduceIte, Nat.reduceEqDiff, reduceCtorEq, Nat.reduceAdd, Nat.reduceMul, Int.reduceToNat, Int.reduceLE, Int.reduceLT, Int.reduceEq, Int.reduceNe, Nat.reduceLeDiff, Int.reducePow, Nat.reducePow, Nat.reduceLT, Nat.reduceSub, Nat.reduceMod, Nat.reduceDiv, slot_neg, slot_pos, T.ag_9, T.eb_32, T.es_59, T.ez_32, T.gf_24, T.ib_25, T.ib_3, T.ii_3, T.ii_32, T.ii_5, T.ii_59, T.ii_9, T.ip_25, T.ip_3, T.s8_3, T.s8_32, T.s8_5, T.s8_59, T.s8_9, T.sl_3, T.sl_32, T.sl_5, T.sl_59, T.sl_9, T.st_3, T.st_32, T.st_5, T.st_59, T.st_9, T.un_3, T.un_32, T.un_5, T.un_59, T.un_9, init_a, mk_str])
  refine (Labels_ph h l hl).mono fun u H ⟨hU, hu⟩ => ?_
  cases hn : nameOf l with
  | none =>
    rw [hn] at hu
    dsimp only at hu
    subst hu
    simp (config := { dsimp := false, maxSteps := 10000000 }) (disch := omega) only [go_sem, reduceIte, Nat.reduceEqDiff, reduceCtorEq, Nat.reduceAdd, Nat.reduceMul, Int.reduceToNat, Int.reduceLE, Int.reduceLT, Int.reduceEq, Int.reduceNe, Nat.reduceLeDiff, Int.reducePow, Nat.reducePow, Nat.reduceLT, Nat.reduceSub, Nat.reduceMod, Nat.reduceDiv, slot_neg, slot_pos, T.ag_9, T.eb_32, T.es_59, T.ez_32, T.gf_24, T.ib_25, T.ib_3, T.ii_3, T.ii_32, T.ii_5, T.ii_59, T.ii_9, T.ip_25, T.ip_3, T.s8_3, T.s8_32, T.s8_5, T.s8_59, T.s8_9, T.sl_3, T.sl_32, T.sl_5, T.sl_59, T.sl_9, T.st_3, T.st_32, T.st_5, T.st_59, T.st_9, T.un_3, T.un_32, T.un_5, T.un_59, T.un_9, mk_str]
    exact hU
  | some ps =>
    rw [hn] at hu
    obtain ⟨v, D, rfl, hO, hD⟩ := hu
    have hlen := name_len hn
    have hok := (name_ok hn).2
    have hcnt := count_le ps
    have ho := hO.row.one
    obtain ⟨A, st, hv⟩ := hO.form
    simp (config := { dsimp := false, maxSteps := 10000000 }) (disch := omega) only [go_sem, reduceIte, Nat.reduceEqDiff, reduceCtorEq, Nat.reduceAdd, Nat.reduceMul, Int.reduceToNat, Int.reduceLE, Int.reduceLT, Int.reduceEq, Int.reduceNe, Nat.reduceLeDiff, Int.reducePow, Nat.reducePow, Nat.reduceLT, Nat.reduceSub, Nat.reduceMod, Nat.reduceDiv, slot_neg, slot_pos, T.ag_9, T.eb_32, T.es_59, T.ez_32, T.gf_24, T.ib_25, T.ib_3, T.ii_3, T.ii_32, T.ii_5, T.ii_59, T.ii_9, T.ip_25, T.ip_3, T.s8_3, T.s8_32, T.s8_5, T.s8_59, T.s8_9, T.sl_3, T.sl_32, T.sl_5, T.sl_59, T.sl_9, T.st_3, T.st_32, T.st_5, T.st_59, T.st_9, T.un_3, T.un_32, T.un_5, T.un_59, T.un_9, mk_str, ho.1, ho.2, hv]
    refine loop_intro [] hm (fun r H2 => ∃ (i : Nat) (v2 : Value) (D2 : List Nat), i ≤ ps.length ∧ r 6 = v2 ∧ r 17 = v ∧ r 18 = .int .i64 ps.length ∧ r 19 = .int .i64 i ∧ OwnRow u8E H2 v2 D2 (wireP (ps.take i)) ∧ (∀ d ∈ D2, H.next ≤ d) ∧ Upd H H2 []) (fun r _ => match r 19 with | .int _ i => ps.length - i.toNat | _ => 0) ?_ ?_
    · exact ⟨0, _, [], by omega, by simp [upd], by simp [upd, hv], by simp [upd], by simp [upd], OwnRow.nil _, by simp, Upd.refl _ _⟩
    · rintro r H2 ⟨i, v2, D2, hi, q6, q17, q18, q19, hO2, hD2, hU2⟩
      have ho2 := hO2.row.one
      by_cases hil : i < ps.length
      · have c1 : ((i : Int) < (ps.length : Int)) = True := eq_true (by omega)
        have wi : IntKind.i64.wrap ((i : Int) + 1) = ((i + 1 : Nat) : Int) := by rw [i64wrap] <;> omega
        have hx : ps[i]? = some ps[i] := List.getElem?_eq_getElem hil
        have hpo := ok_len (hok _ (List.getElem_mem hil))
        have htk : wireP (ps.take (i + 1)) = wireP (ps.take i) ++ [UInt8.ofNat ps[i].length] ++ ps[i] := by unfold wireP; rw [List.take_succ_eq_append_getElem hil]; simp only [List.flatMap_append, List.flatMap_cons, List.flatMap_nil, List.append_nil, List.append_assoc, List.cons_append, List.nil_append]
        have hwl : (wireP (ps.take i)).length ≤ 254 := by rw [wireP_len]; exact Nat.le_trans (sum_take _ _ _) hlen
        rcases hO with ⟨_, h0, _⟩ | ⟨q, off, vs, rfl, hq, hv', hg, hR⟩
        · rw [h0] at hil; simp at hil
        have hcell := hR.cell hx (j := 0) Nat.zero_lt_one
        rw [show tE.k = 1 from rfl, Nat.mul_one, Nat.add_zero] at hcell
        generalize ps[i] = p at *
        have hcell' : vs[off + i]? = some (.string (str p)) := hcell
        have hg2 := (hU2.2 q hq (by simp)).trans hg
        have wp : IntKind.u8.wrap (p.length : Int) = ((UInt8.ofNat p.length).toNat : Int) := by rw [u8wrap (by omega) (by omega)]; simp; omega
        rw [show tE.k = 1 from rfl] at hv'
        rw [hv'] at q17
        simp (config := { dsimp := false, maxSteps := 10000000 }) (disch := omega) only [go_sem, reduceIte, Nat.reduceEqDiff, reduceCtorEq, Nat.reduceAdd, Nat.reduceMul, Int.reduceToNat, Int.reduceLE, Int.reduceLT, Int.reduceEq, Int.reduceNe, Nat.reduceLeDiff, Int.reducePow, Nat.reducePow, Nat.reduceLT, Nat.reduceSub, Nat.reduceMod, Nat.reduceDiv, slot_neg, slot_pos, T.ag_9, T.eb_32, T.es_59, T.ez_32, T.gf_24, T.ib_25, T.ib_3, T.ii_3, T.ii_32, T.ii_5, T.ii_59, T.ii_9, T.ip_25, T.ip_3, T.s8_3, T.s8_32, T.s8_5, T.s8_59, T.s8_9, T.sl_3, T.sl_32, T.sl_5, T.sl_59, T.sl_9, T.st_3, T.st_32, T.st_5, T.st_59, T.st_9, T.un_3, T.un_32, T.un_5, T.un_59, T.un_9, q6, q17, q18, q19, c1, hg2, hcell', wp, ho2.1, ho2.2]
        refine app_own (E := u8E) (ns := [UInt8.ofNat p.length]) (hO2.upd (Upd.alloc _ _ []) (by simp)) rfl rfl rfl (by simp only [List.length_singleton]; omega) fun u3 H3 D3 hO3 hU3 hD3 => ?_
        have ho3 := hO3.row.one
        simp (config := { dsimp := false, maxSteps := 10000000 }) (disch := omega) only [go_sem, reduceIte, Nat.reduceEqDiff, reduceCtorEq, Nat.reduceAdd, Nat.reduceMul, Int.reduceToNat, Int.reduceLE, Int.reduceLT, Int.reduceEq, Int.reduceNe, Nat.reduceLeDiff, Int.reducePow, Nat.reducePow, Nat.reduceLT, Nat.reduceSub, Nat.reduceMod, Nat.reduceDiv, slot_neg, slot_pos, T.ag_9, T.eb_32, T.es_59, T.ez_32, T.gf_24, T.ib_25, T.ib_3, T.ii_3, T.ii_32, T.ii_5, T.ii_59, T.ii_9, T.ip_25, T.ip_3, T.s8_3, T.s8_32, T.s8_5, T.s8_59, T.s8_9, T.sl_3, T.sl_32, T.sl_5, T.sl_59, T.sl_9, T.st_3, T.st_32, T.st_5, T.st_59, T.st_9, T.un_3, T.un_32, T.un_5, T.un_59, T.un_9, q6, q17, q18, q19, ho3.1, ho3.2, bc_one]
        refine app_own (E := u8E) (ns := p) hO3 rfl (u8_flat p).symm rfl (by simp only [List.length_append, List.length_singleton]; omega) fun u4 H4 D4 hO4 hU4 hD4 => ?_
        have ho4 := hO4.row.one
        simp (config := { dsimp := false, maxSteps := 10000000 }) (disch := omega) only [go_sem, reduceIte, Nat.reduceEqDiff, reduceCtorEq, Nat.reduceAdd, Nat.reduceMul, Int.reduceToNat, Int.reduceLE, Int.reduceLT, Int.reduceEq, Int.reduceNe, Nat.reduceLeDiff, Int.reducePow, Nat.reducePow, Nat.reduceLT, Nat.reduceSub, Nat.reduceMod, Nat.reduceDiv, slot_neg, slot_pos, T.ag_9, T.eb_32, T.es_59, T.ez_32, T.gf_24, T.ib_25, T.ib_3, T.ii_3, T.ii_32, T.ii_5, T.ii_59, T.ii_9, T.ip_25, T.ip_3, T.s8_3, T.s8_32, T.s8_5, T.s8_59, T.s8_9, T.sl_3, T.sl_32, T.sl_5, T.sl_59, T.sl_9, T.st_3, T.st_32, T.st_5, T.st_59, T.st_9, T.un_3, T.un_32, T.un_5, T.un_59, T.un_9, q6, q17, q18, q19, ho4.1, ho4.2, wi, hv']
        have n2 := hU2.1
        refine ⟨⟨i + 1, u4, D4, hil, rfl, rfl, by rw [htk]; exact hO4, fun d hd => ?_, ?_⟩, by omega⟩
        · have n3 := hU3.1
          have n9 : (H2.alloc (.cells [Value.int IntKind.u8 ↑(UInt8.ofNat p.length).toNat] .own)).next = H2.next + 1 := rfl
          rcases hD4 d hd with h9 | h9
          · rcases hD3 d h9 with h8 | h8
            · exact hD2 d h8
            · omega
          · omega
        · refine ((hU2.trans (Upd.alloc _ _ []) (by simp)).trans hU3 fun d hd => .inr (hD2 d hd)).trans hU4 fun d hd => .inr ?_
          rcases hD3 d hd with h8 | h8
          · exact hD2 d h8
          · have n9 : (H2.alloc (.cells [Value.int IntKind.u8 ↑(UInt8.ofNat p.length).toNat] .own)).next = H2.next + 1 := rfl
            omega
      · obtain rfl : i = ps.length := by omega
        have c1 : ((ps.length : Int) < (ps.length : Int)) = False := eq_false (by omega)
        rw [List.take_length] at hO2
        have hwl : (wireP ps).length ≤ 254 := by rw [wireP_len]; exact hlen
        simp (config := { dsimp := false, maxSteps := 10000000 }) (disch := omega) only [go_sem, reduceIte, Nat.reduceEqDiff, reduceCtorEq, Nat.reduceAdd, Nat.reduceMul, Int.reduceToNat, Int.reduceLE, Int.reduceLT, Int.reduceEq, Int.reduceNe, Nat.reduceLeDiff, Int.reducePow, Nat.reducePow, Nat.reduceLT, Nat.reduceSub, Nat.reduceMod, Nat.reduceDiv, slot_neg, slot_pos, T.ag_9, T.eb_32, T.es_59, T.ez_32, T.gf_24, T.ib_25, T.ib_3, T.ii_3, T.ii_32, T.ii_5, T.ii_59, T.ii_9, T.ip_25, T.ip_3, T.s8_3, T.s8_32, T.s8_5, T.s8_59, T.s8_9, T.sl_3, T.sl_32, T.sl_5, T.sl_59, T.sl_9, T.st_3, T.st_32, T.st_5, T.st_59, T.st_9, T.un_3, T.un_32, T.un_5, T.un_59, T.un_9, q6, q17, q18, q19, c1, ho2.1, ho2.2]
        refine app_own (E := u8E) (ns := [0]) (hO2.upd (Upd.alloc _ _ []) (by simp)) rfl rfl rfl (by simp only [List.length_singleton]; omega) fun u3 H3 D3 hO3 hU3 hD3 => ?_
        have ho3 := hO3.row.one
        have n0 := hU.1
        have n2 := hU2.1
        simp (config := { dsimp := false, maxSteps := 10000000 }) (disch := omega) only [go_sem, reduceIte, Nat.reduceEqDiff, reduceCtorEq, Nat.reduceAdd, Nat.reduceMul, Int.reduceToNat, Int.reduceLE, Int.reduceLT, Int.reduceEq, Int.reduceNe, Nat.reduceLeDiff, Int.reducePow, Nat.reducePow, Nat.reduceLT, Nat.reduceSub, Nat.reduceMod, Nat.reduceDiv, slot_neg, slot_pos, T.ag_9, T.eb_32, T.es_59, T.ez_32, T.gf_24, T.ib_25, T.ib_3, T.ii_3, T.ii_32, T.ii_5, T.ii_59, T.ii_9, T.ip_25, T.ip_3, T.s8_3, T.s8_32, T.s8_5, T.s8_59, T.s8_9, T.sl_3, T.sl_32, T.sl_5, T.sl_59, T.sl_9, T.st_3, T.st_32, T.st_5, T.st_59, T.st_9, T.un_3, T.un_32, T.un_5, T.un_59, T.un_9, q6, q17, q18, q19, ho3.1, ho3.2]
        refine ⟨((hU.trans hU2 (by simp)).trans (Upd.alloc _ _ []) (by simp)).trans hU3 fun d hd => .inr (by have := hD2 d hd; omega), ?_⟩
        refine ⟨u3, D3, rfl, hO3, fun d hd => ?_⟩
        have n9 : (H2.alloc (.cells [Value.int IntKind.u8 0] .own)).next = H2.next + 1 := rfl
        rcases hD3 d hd with h8 | h8
        · have := hD2 d h8; omega
        · omega
end Ph
