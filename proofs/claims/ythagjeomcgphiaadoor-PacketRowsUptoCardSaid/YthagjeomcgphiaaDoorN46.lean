import Derived.Test.YthagjeomcgphiaaDoorN19
set_option maxRecDepth 100000
set_option linter.unusedSimpArgs false
set_option linter.unusedVariables false
namespace Ph
open Go Go.Proofs
attribute [local irreducible] Value.cells
attribute [local go_sem ↓] s_move s_assign s_pick s_nil s_bin s_un s_fa s_field s_ext s_ia s_ix s_slice s_conv s_build s_bs s_mf s_alloc s_box s_load s_store s_len s_min s_max s_app s_call q_call q_move q_assign q_pick q_nil q_bin q_un q_fa q_field q_ext q_ia q_ix q_slice q_conv q_build q_mf q_load q_len q_min q_max l_nil l_move l_assign l_pick l_nilc l_bin l_un l_fa l_field l_ext l_ia l_ix l_slice l_conv l_build l_mf l_load l_len l_min l_max l_call put_eq putN_eq o_nil o_plain o_gate v_nil v_plain v_gate vc_skip vc_region vc_seq vc_cond vc_block vc_loop vc_exit vc_ret blk_normal blk_ret blk_exit on_normal on_ret on_exit vc_drawn draw_q s_mk l_bs l_mk l_alloc l_box l_store l_app pl_done pl_take pl_alt pl_stop one_plain one_gate
attribute [local go_sem] onAgg_a onTuple_t onFunc_f c_int c_nil c_sl c_str sl_sl sl_nil sl_str ix_str ix_agg n_nil n_sl n_str app_eq k_nil k_sl len_sl len_str upd_some upd_none ev_tmp ev_const ev_func rd_some gdst_eq otmp_t otmp_c get_put get_alloc next_put next_alloc get_app next_app init_a resV1 resV2 onPtr_ptr onBool_b onInt_i onSlice_s onSome_s onCells_c lett_eq gate_tt gate_tf gate_ff gate_ft gate_dt gate_df also_eq bin un minmax io_none io_some bo_none bo_some partOf List.getElem?_cons_zero List.getElem?_cons_succ List.getElem?_toArray Option.map_some Option.map_none Option.bind_some ne_eq not_true_eq_false not_false_eq_true false_implies true_implies and_true true_and and_self Bool.false_eq_true Nat.zero_add Nat.add_zero List.size_toArray List.length_cons List.length_nil List.map_toArray List.map_cons List.map_nil Array.getD_eq_getD_getElem? Option.getD_some Bool.not_true Bool.not_false Bool.not_eq_true Option.isNone_some Option.isNone_none List.append_toArray List.append_nil List.nil_append List.cons_append decide_true decide_false in_nil in_cons Bool.and_false Bool.and_true Bool.or_false Bool.true_or Bool.false_or get_mask next_mask get_unmask next_unmask ac_move ac_assign ac_pick ac_nil ac_bin ac_un ac_fa ac_field ac_ext ac_ia ac_ix ac_slice ac_build ac_mf ac_call ac_load ac_conv accP_p accS_s accS_n accS_i accS_t fixed_ro fixed_lock fixed_own get_ro next_ro lock_live' lock_cells List.mem_cons List.not_mem_nil or_false false_or or_true true_or and_false false_and IntKind.bits Int.natCast_zero Int.natCast_one size_str data_str list_str mk_str ext_str app_str bytes_str w_byte w_byteu Int.toNat_natCast Int.toNat_zero Int.toNat_one Nat.sub_zero ge_iff_le gt_iff_lt Nat.le_refl Int.le_refl List.drop_zero Int.ofNat_eq_natCast Int.natCast_nonneg Int.sub_zero oc_int oc_bool oc_str oc_ptr oc_sl oc_map oc_func List.set_cons_zero List.set_cons_succ Nat.mul_one List.all_cons List.all_nil Bool.and_self res_nil res_tmp res_cell tup_one tup_two tup_nil fill_nil repl_zero cells_agg List.append_eq List.toList_toArray Nat.zero_mul Nat.one_mul repl_one repl_two onSome_build fill_cons onSome_lit splice_eq cells_int cells_bool cells_str cells_ptr cells_sl cells_map cells_func loadK_n loadK_s load_k storeK_n storeK_s store_k all_arr List.take_zero List.take_succ_cons List.drop_succ_cons List.take_nil List.drop_nil lk_own lk_ro lk_lock lk_lk fixed_lk gate_nt gate_nf gate3_b gate3_u undef Bool.true_and Bool.false_and nx_l nx_r nx_lt
def ic (l : List Int) : List Value := l.map (Value.int .i64)
/-- what a slice of ints denotes -/
def SlX (h : Heap) (v : Value) (l : List Int) : Prop := (v = .slice none 0 0 ∧ l = []) ∨ ∃ i o vs q, v = .slice (some ⟨i, o, none⟩) l.length 1 ∧ h.get i = .live (.cells vs q) ∧ (vs.drop o).take l.length = ic l ∧ o + l.length ≤ vs.length
theorem SlX.get {l : List Int} {vs : List Value} {o n : Nat} (h : (vs.drop o).take l.length = ic l) (hn : n < l.length) : vs[o + n]? = some (.int .i64 (l.getD n 0)) := by
  have e : (ic l)[n]? = some (.int .i64 (l.getD n 0)) := by simp [ic, hn]
  rw [← e, ← h, List.getElem?_take_of_lt hn, List.getElem?_drop]
theorem SlI.toX {n0 h v l} (hs : SlI n0 h v l) : SlX h v l := by
  rcases hs with hs | ⟨i, q, _, h1, h2⟩
  · exact .inl hs
  · exact .inr ⟨i, 0, _, q, h1, h2, by rw [List.drop_zero, List.take_of_length_le (by simp)]; rfl, by simp⟩
theorem take_stepI {l : List Int} {i : Nat} (h : i < l.length) : l.take (i + 1) = l.take i ++ [l.getD i 0] := by rw [List.take_succ_eq_append_getElem h]; simp [h]
theorem Ints_ph (h : Heap) (u v : Value) (a b : List Int) (ha : SlX h u a) (hb : SlX h v b) (hla : a.length < 9223372036854775807) (hlb : b.length < 9223372036854775807) :
    @CallsH Tryd.prog 46 #[u, v] h ⟨fun w _ => w = .bool (decide (a = b))⟩ := by
  rcases ha with ⟨rfl, rfl⟩ | ⟨p, o, vs, q, rfl, hp, hrow, hlen⟩
  · rcases hb with ⟨rfl, rfl⟩ | ⟨p', o', vs', q', rfl, hp', hrow', hlen'⟩
    · (refine calls_of_vc [] hm Tryd.func46 rfl (ts := [4]) rfl (by kernel_rfl) (by simp) ?_; simp (config := { dsimp := false }) only [go_sem, reduceIte, Nat.reduceEqDiff, reduceCtorEq, Nat.reduceAdd, Nat.reduceMul, Int.reduceToNat, Int.reduceLE, Int.reduceLT, Int.reduceEq, Int.reduceNe, Nat.reduceLeDiff, Int.reducePow, Nat.reducePow, Nat.reduceLT, Nat.reduceSub, Nat.reduceMod, Nat.reduceDiv, T.ag_3, T.es_22, T.ib_3, T.ii_22, T.ip_3, T.s8_22, T.sl_22, T.st_22, T.un_22, init_a])
      refine loop_intro [] hm (fun r h' => r 0 = .slice none 0 0 ∧ r 5 = .int .i64 0) (fun r _ => (0 : Nat)) ?_ ?_
      · exact ⟨by simp [upd, initR], by simp [upd]⟩
      · rintro r h ⟨h0, h1⟩
        simp (config := { dsimp := false }) only [go_sem, reduceIte, Nat.reduceEqDiff, reduceCtorEq, Nat.reduceAdd, Nat.reduceMul, Int.reduceToNat, Int.reduceLE, Int.reduceLT, Int.reduceEq, Int.reduceNe, Nat.reduceLeDiff, Int.reducePow, Nat.reducePow, Nat.reduceLT, Nat.reduceSub, Nat.reduceMod, Nat.reduceDiv, T.ag_3, T.es_22, T.ib_3, T.ii_22, T.ip_3, T.s8_22, T.sl_22, T.st_22, T.un_22, h0, h1]
    · cases b with
      | nil =>
        (refine calls_of_vc [] hm Tryd.func46 rfl (ts := [4]) rfl (by kernel_rfl) (by simp) ?_; simp (config := { dsimp := false }) only [go_sem, reduceIte, Nat.reduceEqDiff, reduceCtorEq, Nat.reduceAdd, Nat.reduceMul, Int.reduceToNat, Int.reduceLE, Int.reduceLT, Int.reduceEq, Int.reduceNe, Nat.reduceLeDiff, Int.reducePow, Nat.reducePow, Nat.reduceLT, Nat.reduceSub, Nat.reduceMod, Nat.reduceDiv, T.ag_3, T.es_22, T.ib_3, T.ii_22, T.ip_3, T.s8_22, T.sl_22, T.st_22, T.un_22, init_a])
        refine loop_intro [] hm (fun r h' => r 0 = .slice none 0 0 ∧ r 5 = .int .i64 0) (fun r _ => (0 : Nat)) ?_ ?_
        · exact ⟨by simp [upd, initR], by simp [upd]⟩
        · rintro r h ⟨h0, h1⟩
          simp (config := { dsimp := false }) only [go_sem, reduceIte, Nat.reduceEqDiff, reduceCtorEq, Nat.reduceAdd, Nat.reduceMul, Int.reduceToNat, Int.reduceLE, Int.reduceLT, Int.reduceEq, Int.reduceNe, Nat.reduceLeDiff, Int.reducePow, Nat.reducePow, Nat.reduceLT, Nat.reduceSub, Nat.reduceMod, Nat.reduceDiv, T.ag_3, T.es_22, T.ib_3, T.ii_22, T.ip_3, T.s8_22, T.sl_22, T.st_22, T.un_22, h0, h1]
      | cons x t =>
        have hz : ((0 : Int) = ((t.length + 1 : Nat) : Int)) = False := eq_false (by omega)
        (refine calls_of_vc [] hm Tryd.func46 rfl (ts := [4]) rfl (by kernel_rfl) (by simp) ?_; simp (config := { dsimp := false }) only [go_sem, reduceIte, Nat.reduceEqDiff, reduceCtorEq, Nat.reduceAdd, Nat.reduceMul, Int.reduceToNat, Int.reduceLE, Int.reduceLT, Int.reduceEq, Int.reduceNe, Nat.reduceLeDiff, Int.reducePow, Nat.reducePow, Nat.reduceLT, Nat.reduceSub, Nat.reduceMod, Nat.reduceDiv, T.ag_3, T.es_22, T.ib_3, T.ii_22, T.ip_3, T.s8_22, T.sl_22, T.st_22, T.un_22, init_a, hz])
  · rcases hb with ⟨rfl, rfl⟩ | ⟨p', o', vs', q', rfl, hp', hrow', hlen'⟩
    · cases a with
      | nil =>
        (refine calls_of_vc [] hm Tryd.func46 rfl (ts := [4]) rfl (by kernel_rfl) (by simp) ?_; simp (config := { dsimp := false }) only [go_sem, reduceIte, Nat.reduceEqDiff, reduceCtorEq, Nat.reduceAdd, Nat.reduceMul, Int.reduceToNat, Int.reduceLE, Int.reduceLT, Int.reduceEq, Int.reduceNe, Nat.reduceLeDiff, Int.reducePow, Nat.reducePow, Nat.reduceLT, Nat.reduceSub, Nat.reduceMod, Nat.reduceDiv, T.ag_3, T.es_22, T.ib_3, T.ii_22, T.ip_3, T.s8_22, T.sl_22, T.st_22, T.un_22, init_a])
        refine loop_intro [] hm (fun r h' => r 0 = .slice (some ⟨p, o, none⟩) 0 1 ∧ r 5 = .int .i64 0) (fun r _ => (0 : Nat)) ?_ ?_
        · exact ⟨by simp [upd, initR], by simp [upd]⟩
        · rintro r h ⟨h0, h1⟩
          simp (config := { dsimp := false }) only [go_sem, reduceIte, Nat.reduceEqDiff, reduceCtorEq, Nat.reduceAdd, Nat.reduceMul, Int.reduceToNat, Int.reduceLE, Int.reduceLT, Int.reduceEq, Int.reduceNe, Nat.reduceLeDiff, Int.reducePow, Nat.reducePow, Nat.reduceLT, Nat.reduceSub, Nat.reduceMod, Nat.reduceDiv, T.ag_3, T.es_22, T.ib_3, T.ii_22, T.ip_3, T.s8_22, T.sl_22, T.st_22, T.un_22, h0, h1]
      | cons x t =>
        have hz : (((t.length + 1 : Nat) : Int) = 0) = False := eq_false (by omega)
        (refine calls_of_vc [] hm Tryd.func46 rfl (ts := [4]) rfl (by kernel_rfl) (by simp) ?_; simp (config := { dsimp := false }) only [go_sem, reduceIte, Nat.reduceEqDiff, reduceCtorEq, Nat.reduceAdd, Nat.reduceMul, Int.reduceToNat, Int.reduceLE, Int.reduceLT, Int.reduceEq, Int.reduceNe, Nat.reduceLeDiff, Int.reducePow, Nat.reducePow, Nat.reduceLT, Nat.reduceSub, Nat.reduceMod, Nat.reduceDiv, T.ag_3, T.es_22, T.ib_3, T.ii_22, T.ip_3, T.s8_22, T.sl_22, T.st_22, T.un_22, init_a, hz])
    · (refine calls_of_vc [] hm Tryd.func46 rfl (ts := [4]) rfl (by kernel_rfl) (by simp) ?_; simp (config := { dsimp := false }) only [go_sem, reduceIte, Nat.reduceEqDiff, reduceCtorEq, Nat.reduceAdd, Nat.reduceMul, Int.reduceToNat, Int.reduceLE, Int.reduceLT, Int.reduceEq, Int.reduceNe, Nat.reduceLeDiff, Int.reducePow, Nat.reducePow, Nat.reduceLT, Nat.reduceSub, Nat.reduceMod, Nat.reduceDiv, T.ag_3, T.es_22, T.ib_3, T.ii_22, T.ip_3, T.s8_22, T.sl_22, T.st_22, T.un_22, init_a])
      refine ⟨fun hne => ?_, fun heq => ?_⟩
      · have : ¬ a = b := fun x => by rw [x] at hne; exact hne rfl
        simp [this]
      · have hl : a.length = b.length := by omega
        refine loop_intro [] hm (fun r h' => h' = h ∧ ∃ i, i ≤ a.length ∧ r 0 = .slice (some ⟨p, o, none⟩) a.length 1 ∧ r 1 = .slice (some ⟨p', o', none⟩) b.length 1 ∧ r 5 = .int .i64 i ∧ a.take i = b.take i) (fun r _ => match r 5 with | .int _ i => a.length - i.toNat | _ => 0) ?_ ?_
        · exact ⟨rfl, 0, by omega, by simp [upd, initR], by simp [upd, initR], by simp [upd], by simp⟩
        · rintro r _ ⟨rfl, i, h0, h1, h2, h3, h4⟩
          by_cases hi : i < a.length
          · have e := i64wrap (x := (i : Int) + 1) (by omega) (by omega)
            have g1 := SlX.get hrow hi
            have g2 := SlX.get hrow' (n := i) (by omega)
            have hi' : ((i : Int) < (a.length : Int)) = True := eq_true (by omega)
            simp (config := { dsimp := false }) only [go_sem, reduceIte, Nat.reduceEqDiff, reduceCtorEq, Nat.reduceAdd, Nat.reduceMul, Int.reduceToNat, Int.reduceLE, Int.reduceLT, Int.reduceEq, Int.reduceNe, Nat.reduceLeDiff, Int.reducePow, Nat.reducePow, Nat.reduceLT, Nat.reduceSub, Nat.reduceMod, Nat.reduceDiv, T.ag_3, T.es_22, T.ib_3, T.ii_22, T.ip_3, T.s8_22, T.sl_22, T.st_22, T.un_22, h1, h2, h3, hp, hp', g1, g2, hi', e]
            have hab : a.getD i 0 = b.getD i 0 → a.take (i + 1) = b.take (i + 1) := fun x => by rw [take_stepI hi, take_stepI (by omega), h4, x]
            refine ⟨by omega, fun hne => ?_, fun heq => ?_⟩
            · have : ¬ a = b := fun x => by rw [x] at hne; exact hne rfl
              simp [this]
            · exact ⟨⟨i + 1, by omega, rfl, hab (Classical.not_not.1 heq)⟩, by omega⟩
          · have hi' : ((i : Int) < (a.length : Int)) = False := eq_false (by omega)
            simp (config := { dsimp := false }) only [go_sem, reduceIte, Nat.reduceEqDiff, reduceCtorEq, Nat.reduceAdd, Nat.reduceMul, Int.reduceToNat, Int.reduceLE, Int.reduceLT, Int.reduceEq, Int.reduceNe, Nat.reduceLeDiff, Int.reducePow, Nat.reducePow, Nat.reduceLT, Nat.reduceSub, Nat.reduceMod, Nat.reduceDiv, T.ag_3, T.es_22, T.ib_3, T.ii_22, T.ip_3, T.s8_22, T.sl_22, T.st_22, T.un_22, h1, h2, h3, hi']
            rw [List.take_of_length_le (by omega), List.take_of_length_le (by omega)] at h4
            simp [h4]
end Ph
