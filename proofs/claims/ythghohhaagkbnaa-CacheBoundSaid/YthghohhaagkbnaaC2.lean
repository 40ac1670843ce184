import Derived.Test.YthghohhaagkbnaaC1
set_option maxRecDepth 100000
set_option maxHeartbeats 4000000
set_option linter.unusedSimpArgs false
set_option linter.unusedVariables false
namespace Ph
open Go Go.Proofs
attribute [local irreducible] Value.cells
attribute [local go_sem ↓] y_move y_assign y_pick y_nil y_bin y_un y_fa y_field y_ext y_ia y_ix y_slice y_build y_mf y_rg y_nx y_en y_mm y_lk y_mu y_del y_load y_len y_min y_max y_conv y_bs y_mk y_alloc y_box y_store y_clear y_app y_callf y_callt s_move s_assign s_pick s_nil s_bin s_un s_fa s_field s_ext s_ia s_ix s_slice s_conv s_build s_bs s_mf s_alloc s_box s_rg s_nx s_en s_mm s_lk s_mu s_del s_load s_store s_len s_clear s_min s_max s_app s_call q_call q_move q_assign q_pick q_nil q_bin q_un q_fa q_field q_ext q_ia q_ix q_slice q_conv q_build q_mf q_lk q_load q_len q_min q_max l_nil l_move l_assign l_pick l_nilc l_bin l_un l_fa l_field l_ext l_ia l_ix l_slice l_conv l_build l_mf l_lk l_load l_len l_min l_max l_call put_eq putN_eq o_nil o_plain o_gate v_nil v_plain v_gate vc_skip vc_region vc_seq vc_cond vc_block vc_loop vc_rf vc_exit vc_ret blk_normal blk_ret blk_exit on_normal on_ret on_exit vc_drawn draw_q s_mk l_bs l_mk l_rg l_nx l_en l_mm l_mu l_del l_alloc l_box l_store l_app l_clear pl_done pl_takeS pl_take pl_alt pl_stop one_plain one_gate
attribute [local go_sem] clear_nil clear_sl onAgg_a onTuple_t onFn_f onFn_y onFunc_f c_int c_nil c_sl c_str sl_sl sl_nil sl_str ix_str ix_agg n_nil n_sl n_str app_eq k_nil k_sl len_sl len_str len_mn len_m onMap_m onIter_i rg_n rg_m nx_p en_p lk_n lk_m up_m setM_n setM_s del_n del_m kt_s kt_i upd_some upd_none ev_tmp ev_const ev_func rd_some gdst_eq otmp_t otmp_c get_put get_alloc next_put next_alloc get_app next_app init_a resV1 resV2 onPtr_ptr onBool_b onInt_i onSlice_s onSome_s onCells_c lett_eq gate_tt gate_tf gate_ff gate_ft gate_dt gate_df also_eq bin un minmax io_none io_some bo_none bo_some partOf List.getElem?_cons_zero List.getElem?_cons_succ List.getElem?_toArray Option.map_some Option.map_none Option.bind_some ne_eq not_true_eq_false not_false_eq_true false_implies true_implies and_true true_and and_self Bool.false_eq_true Nat.zero_add Nat.add_zero List.size_toArray List.length_cons List.length_nil List.map_toArray List.map_cons List.map_nil Array.getD_eq_getD_getElem? Option.getD_some Bool.not_true Bool.not_false Bool.not_eq_true Option.isNone_some Option.isNone_none List.append_toArray List.append_nil List.nil_append List.cons_append decide_true decide_false in_nil in_cons Bool.and_false Bool.and_true Bool.or_false Bool.true_or Bool.false_or get_mask next_mask get_unmask next_unmask ac_move ac_assign ac_pick ac_nil ac_bin ac_un ac_fa ac_field ac_ext ac_ia ac_ix ac_slice ac_build ac_mf ac_call ac_len ac_lk ac_min ac_max accM_m accM_n accM_s accM_t ac_load ac_conv accP_p accS_s accS_n accS_i accS_t fixed_ro fixed_lock fixed_own get_ro next_ro lock_live' lock_cells List.mem_cons List.not_mem_nil or_false false_or or_true true_or and_false false_and IntKind.bits Int.natCast_zero Int.natCast_one size_str data_str list_str mk_str ext_str app_str bytes_str w_byte w_byteu Int.toNat_natCast Int.toNat_zero Int.toNat_one Nat.sub_zero ge_iff_le gt_iff_lt Nat.le_refl Int.le_refl List.drop_zero Int.ofNat_eq_natCast Int.natCast_nonneg Int.sub_zero oc_int oc_bool oc_str oc_ptr oc_sl oc_map oc_func List.set_cons_zero List.set_cons_succ Nat.mul_one List.all_cons List.all_nil Bool.and_self res_nil res_tmp res_cell tup_one tup_two tup_nil fill_nil repl_zero cells_agg List.append_eq List.toList_toArray Nat.zero_mul Nat.one_mul repl_one repl_two onSome_build fill_cons onSome_lit splice_eq cells_int cells_bool cells_str cells_ptr cells_sl cells_map cells_func loadK_n loadK_s load_k storeK_n storeK_s store_k all_arr List.take_zero List.take_succ_cons List.drop_succ_cons List.take_nil List.drop_nil lk_own lk_ro lk_lock lk_lk fixed_lk gate_nt gate_nf gate3_b gate3_u undef Bool.true_and Bool.false_and nx_l nx_r nx_lt put_put resV0
/-- what a loop over the map has left, when these were seen -/
def left (p : Th → Bool) (seen : Array Nat) (l : List Th) : List Th := l.filter fun x => !(seen.contains x.born && p x)
theorem MapT.upd {kd : Value → Prop} {h h' : Heap} {id : Nat} {l : List Th} {cl : Nat} (hM : MapT kd h id l cl) {F : List Nat} (hu : Upd h h' F) (hF : id ∉ F) : MapT kd h' id l cl :=
  ⟨Nat.lt_of_lt_of_le hM.lt hu.1, (hu.2 id hM.lt hF).trans hM.at_, hM.keys, hM.one, hM.born, hM.clock⟩
theorem MapT.sub {kd : Value → Prop} {h : Heap} {id : Nat} {l l' : List Th} {cl : Nat} (hM : MapT kd h id l cl) (hs : l'.Sublist l) : MapT kd (h.put id (.live (.map (ents l') cl .own))) id l' cl :=
  ⟨by rw [next_put]; exact hM.lt, by rw [get_put, if_pos rfl], fun x hx => hM.keys x (hs.subset hx), hM.one.sublist (hs.map _), hM.born.sublist hs, fun x hx => hM.clock x (hs.subset hx)⟩
theorem ents_erase : ∀ (l : List Th) (i : Nat), (ents l).eraseIdx i = ents (l.eraseIdx i)
  | [], i => by simp [ents]
  | x :: l, 0 => rfl
  | x :: l, i + 1 => by
    show (x.key, x.agg, x.born) :: (ents l).eraseIdx i = (x.key, x.agg, x.born) :: ents (l.eraseIdx i)
    rw [ents_erase l i]
/-- maps.DeleteFunc -/
theorem DeleteMS_ph {kd : Value → Prop} (hkd : OneKind kd) (hkt : ∀ k, kd k → keyTy Try.prog 9 k = true) (h : Heap) (id : Nat) (l : List Th) (cl : Nat) (f : Nat) (cap : Array Value) (p : Th → Bool) (hM : MapT kd h id l cl) (hg : goodFunc Try.prog f = true)
    (hf : ∀ x ∈ l, ∀ H, Upd h H [id] → @CallsH Try.prog f (#[x.key, x.agg] ++ cap) H.ro ⟨fun u _ => u = .bool (p x)⟩) :
    @CallsH Try.prog 85 #[.map (some id), .func (.func f) #[] cap] h ⟨fun u H => MapT kd H id (l.filter fun x => !p x) cl ∧ Upd h H [id]⟩ := by
  have hidn := hM.lt
  have nid : (id = h.next) = False := eq_false (by omega)
  (refine calls_of_vc [] hm Try.func85 rfl (ts := []) rfl (by kernel_rfl) (by simp) ?_; simp (config := { dsimp := false, maxSteps := 10000000 }) (disch := omega) only [go_sem, reduceIte, Nat.reduceEqDiff, reduceCtorEq, Nat.reduceAdd, Nat.reduceMul, Int.reduceToNat, Int.reduceLE, Int.reduceLT, Int.reduceEq, Int.reduceNe, Nat.reduceLeDiff, Int.reducePow, Nat.reducePow, Nat.reduceLT, Nat.reduceSub, Nat.reduceMod, Nat.reduceDiv, slot_neg, slot_pos, T.ag_134, T.ii_9, T.mt_136, T.s8_9, T.sl_9, T.st_9, T.un_9, T.zo_134, T.zv_134, init_a, hM.at_])
  refine loop_intro [] hm (fun r H => ∃ seen : Array Nat, Upd h H [id] ∧ MapT kd H id (left p seen l) cl ∧ H.get h.next = .live (.iter (some id) cl seen cl .own) ∧ h.next < H.next ∧ r 0 = .map (some id) ∧ r 1 = .func (.func f) #[] cap ∧ r 7 = .pointer (some ⟨h.next, 0, none⟩)) (fun _ H => match H.get h.next with | .live (.iter _ _ seen _ _) => (l.filter fun x => !seen.contains x.born).length | _ => 0) ?_ ?_
  · have e0 : left p #[] l = l := by unfold left; exact List.filter_eq_self.2 (by simp)
    exact ⟨#[], Upd.alloc _ _ _, by rw [e0]; exact hM.upd (Upd.alloc _ _ []) (by simp), by rw [get_alloc, if_pos rfl], Nat.lt_succ_self _, by simp [upd, initR], by simp [upd, initR], by simp [upd]⟩
  · rintro r H ⟨seen, hU, hMs, hit, hnx, q0, q1, q7⟩
    simp (config := { dsimp := false, maxSteps := 10000000 }) (disch := omega) only [go_sem, reduceIte, Nat.reduceEqDiff, reduceCtorEq, Nat.reduceAdd, Nat.reduceMul, Int.reduceToNat, Int.reduceLE, Int.reduceLT, Int.reduceEq, Int.reduceNe, Nat.reduceLeDiff, Int.reducePow, Nat.reducePow, Nat.reduceLT, Nat.reduceSub, Nat.reduceMod, Nat.reduceDiv, slot_neg, slot_pos, T.ag_134, T.ii_9, T.mt_136, T.s8_9, T.sl_9, T.st_9, T.un_9, T.zo_134, T.zv_134, q0, q1, q7, hit, hMs.at_]
    refine ⟨fun e he => ?_, fun hall => ?_, fun e he hns => ?_⟩
    · obtain ⟨x, hx, rfl⟩ := List.mem_map.1 he
      exact hMs.clock x hx
    · have e0 : left p seen l = l.filter fun x => !p x := by
        unfold left
        refine List.filter_congr fun x hx => ?_
        cases hp : p x with
        | false => simp
        | true =>
          cases hs : seen.contains x.born with
          | true => rfl
          | false =>
            have hxl : x ∈ left p seen l := List.mem_filter.2 ⟨hx, by rw [hs]; rfl⟩
            have := hall _ (List.mem_map.2 ⟨x, hxl, rfl⟩)
            have h9 : seen.contains x.born = true := by simpa using this
            rw [hs] at h9; cases h9
      rw [e0] at hMs
      exact ⟨hMs, hU⟩
    · obtain ⟨x, hx, rfl⟩ := List.mem_map.1 he
      have hfb := find_born hMs.born hx
      have hbk : (seen.push x.born).back? = some x.born := Array.back?_push ..
      have hxl : x ∈ l := (List.mem_filter.1 hx).1
      have hns' : seen.contains x.born = false := by simpa using hns
      dsimp only at hbk ⊢
      have hxa : x.agg = .agg #[x.key, x.val, .int .i64 x.goes, .int .i64 x.put] := rfl
      have hxc : x.agg.cells = #[x.key, x.val, .int .i64 x.goes, .int .i64 x.put] := cells_agg
      have hx1 := x.one
      simp (config := { dsimp := false, maxSteps := 10000000 }) (disch := omega) only [go_sem, reduceIte, Nat.reduceEqDiff, reduceCtorEq, Nat.reduceAdd, Nat.reduceMul, Int.reduceToNat, Int.reduceLE, Int.reduceLT, Int.reduceEq, Int.reduceNe, Nat.reduceLeDiff, Int.reducePow, Nat.reducePow, Nat.reduceLT, Nat.reduceSub, Nat.reduceMod, Nat.reduceDiv, slot_neg, slot_pos, T.ag_134, T.ii_9, T.mt_136, T.s8_9, T.sl_9, T.st_9, T.un_9, T.zo_134, T.zv_134, hbk, hfb, hMs.at_, q0, q1, q7, hxc, hx1.1, hx1.2]
      refine ⟨hg, ?_⟩
      obtain ⟨Hc, hHc⟩ : ∃ Hc, ((H.put h.next (.live (.iter (some id) cl (seen.push x.born) cl .own))).alloc (.cells [.string (str []), .int .i64 0, .int .i64 0, .int .i64 0] .own)).put H.next (.live (.cells [x.key, x.val, .int .i64 x.goes, .int .i64 x.put] .own)) = Hc := ⟨_, rfl⟩
      rw [hHc]
      have hMlt := hMs.lt
      have uc : Upd H Hc [h.next] := by rw [← hHc]; exact (((Upd.refl H [h.next]).put (.inl (by simp))).allocs).put (.inr (Nat.le_refl _))
      have hitc : Hc.get h.next = .live (.iter (some id) cl (seen.push x.born) cl .own) := by rw [← hHc, get_put, if_neg (by omega), get_alloc, if_neg (by rw [next_put]; omega), get_put, if_pos rfl]
      have hnc : H.next < Hc.next := by rw [← hHc]; exact Nat.lt_succ_self _
      clear hHc
      have hUc : Upd h Hc [id] := hU.trans uc fun d hd => by simp at hd; right; omega
      have hMc : MapT kd Hc id (left p seen l) cl := hMs.upd uc (by simp; omega)
      have hmeas : (l.filter fun y => !(seen.push x.born).contains y.born).length < (l.filter fun y => !seen.contains y.born).length := by
        have e0 : (l.filter fun y => !(seen.push x.born).contains y.born) = (l.filter fun y => !seen.contains y.born).filter fun y => !(y.born == x.born) := by
          rw [List.filter_filter]
          refine List.filter_congr fun y hy => ?_
          rw [Array.contains_push]
          cases h1 : seen.contains y.born <;> cases h2 : y.born == x.born <;> simp_all
        rw [e0]
        refine List.length_filter_lt_length_iff_exists.2 ⟨x, List.mem_filter.2 ⟨hxl, by rw [hns']; rfl⟩, by simp⟩
      refine CallsH.pure _ rfl (hf x hxl Hc hUc) ?_
      cases hp : p x with
      | true =>
        obtain ⟨i, hi⟩ := List.getElem?_of_mem hx
        have hfs := find_some hkd (left p seen l) 0 i x hMc.keys hMc.one hi
        rw [Nat.zero_add] at hfs
        simp (config := { dsimp := false, maxSteps := 10000000 }) (disch := omega) only [go_sem, reduceIte, Nat.reduceEqDiff, reduceCtorEq, Nat.reduceAdd, Nat.reduceMul, Int.reduceToNat, Int.reduceLE, Int.reduceLT, Int.reduceEq, Int.reduceNe, Nat.reduceLeDiff, Int.reducePow, Nat.reducePow, Nat.reduceLT, Nat.reduceSub, Nat.reduceMod, Nat.reduceDiv, slot_neg, slot_pos, T.ag_134, T.ii_9, T.mt_136, T.s8_9, T.sl_9, T.st_9, T.un_9, T.zo_134, T.zv_134, q0, q1, q7, hMc.at_, hfs]
        have e1 : left p (seen.push x.born) l = (left p seen l).eraseIdx i := by
          rw [erase_filter hMc.born hi]
          unfold left
          rw [List.filter_filter]
          refine List.filter_congr fun y hy => ?_
          rw [Array.contains_push]
          cases h2 : y.born == x.born with
          | true =>
            have : y = x := born_inj hM.born hy hxl (by simpa using h2)
            subst this
            rw [hp]; simp
          | false => cases seen.contains y.born <;> cases p y <;> rfl
        have e2 : (ents (left p seen l)).eraseIdx i = ents (left p (seen.push x.born) l) := by rw [e1]; exact ents_erase ..
        rw [e2]
        refine ⟨hkt _ (hMs.keys x hx), ⟨seen.push x.born, hUc.put (.inl (by simp)), ?_, hitc, by omega⟩, by rw [hitc, hit]; exact hmeas⟩
        exact hMc.sub (by rw [e1]; exact List.eraseIdx_sublist ..)
      | false =>
        simp (config := { dsimp := false, maxSteps := 10000000 }) (disch := omega) only [go_sem, reduceIte, Nat.reduceEqDiff, reduceCtorEq, Nat.reduceAdd, Nat.reduceMul, Int.reduceToNat, Int.reduceLE, Int.reduceLT, Int.reduceEq, Int.reduceNe, Nat.reduceLeDiff, Int.reducePow, Nat.reducePow, Nat.reduceLT, Nat.reduceSub, Nat.reduceMod, Nat.reduceDiv, slot_neg, slot_pos, T.ag_134, T.ii_9, T.mt_136, T.s8_9, T.sl_9, T.st_9, T.un_9, T.zo_134, T.zv_134, q0, q1, q7]
        have e1 : left p (seen.push x.born) l = left p seen l := by
          unfold left
          refine List.filter_congr fun y hy => ?_
          rw [Array.contains_push]
          cases h2 : y.born == x.born with
          | true =>
            have : y = x := born_inj hM.born hy hxl (by simpa using h2)
            subst this
            rw [hp]; simp
          | false => cases seen.contains y.born <;> cases p y <;> rfl
        exact ⟨⟨seen.push x.born, hUc, by rw [e1]; exact hMc, hitc, by omega⟩, by rw [hitc, hit]; exact hmeas⟩

/-- maps.DeleteFunc -/
theorem DeleteMI_ph {kd : Value → Prop} (hkd : OneKind kd) (hkt : ∀ k, kd k → keyTy Try.prog 3 k = true) (h : Heap) (id : Nat) (l : List Th) (cl : Nat) (f : Nat) (cap : Array Value) (p : Th → Bool) (hM : MapT kd h id l cl) (hg : goodFunc Try.prog f = true)
    (hf : ∀ x ∈ l, ∀ H, Upd h H [id] → @CallsH Try.prog f (#[x.key, x.agg] ++ cap) H.ro ⟨fun u _ => u = .bool (p x)⟩) :
    @CallsH Try.prog 69 #[.map (some id), .func (.func f) #[] cap] h ⟨fun u H => MapT kd H id (l.filter fun x => !p x) cl ∧ Upd h H [id]⟩ := by
  have hidn := hM.lt
  have nid : (id = h.next) = False := eq_false (by omega)
  (refine calls_of_vc [] hm Try.func69 rfl (ts := []) rfl (by kernel_rfl) (by simp) ?_; simp (config := { dsimp := false, maxSteps := 10000000 }) (disch := omega) only [go_sem, reduceIte, Nat.reduceEqDiff, reduceCtorEq, Nat.reduceAdd, Nat.reduceMul, Int.reduceToNat, Int.reduceLE, Int.reduceLT, Int.reduceEq, Int.reduceNe, Nat.reduceLeDiff, Int.reducePow, Nat.reducePow, Nat.reduceLT, Nat.reduceSub, Nat.reduceMod, Nat.reduceDiv, slot_neg, slot_pos, T.ag_93, T.ii_3, T.mt_88, T.s8_3, T.sl_3, T.st_3, T.un_3, T.zo_93, T.zv_93, init_a, hM.at_])
  refine loop_intro [] hm (fun r H => ∃ seen : Array Nat, Upd h H [id] ∧ MapT kd H id (left p seen l) cl ∧ H.get h.next = .live (.iter (some id) cl seen cl .own) ∧ h.next < H.next ∧ r 0 = .map (some id) ∧ r 1 = .func (.func f) #[] cap ∧ r 7 = .pointer (some ⟨h.next, 0, none⟩)) (fun _ H => match H.get h.next with | .live (.iter _ _ seen _ _) => (l.filter fun x => !seen.contains x.born).length | _ => 0) ?_ ?_
  · have e0 : left p #[] l = l := by unfold left; exact List.filter_eq_self.2 (by simp)
    exact ⟨#[], Upd.alloc _ _ _, by rw [e0]; exact hM.upd (Upd.alloc _ _ []) (by simp), by rw [get_alloc, if_pos rfl], Nat.lt_succ_self _, by simp [upd, initR], by simp [upd, initR], by simp [upd]⟩
  · rintro r H ⟨seen, hU, hMs, hit, hnx, q0, q1, q7⟩
    simp (config := { dsimp := false, maxSteps := 10000000 }) (disch := omega) only [go_sem, reduceIte, Nat.reduceEqDiff, reduceCtorEq, Nat.reduceAdd, Nat.reduceMul, Int.reduceToNat, Int.reduceLE, Int.reduceLT, Int.reduceEq, Int.reduceNe, Nat.reduceLeDiff, Int.reducePow, Nat.reducePow, Nat.reduceLT, Nat.reduceSub, Nat.reduceMod, Nat.reduceDiv, slot_neg, slot_pos, T.ag_93, T.ii_3, T.mt_88, T.s8_3, T.sl_3, T.st_3, T.un_3, T.zo_93, T.zv_93, q0, q1, q7, hit, hMs.at_]
    refine ⟨fun e he => ?_, fun hall => ?_, fun e he hns => ?_⟩
    · obtain ⟨x, hx, rfl⟩ := List.mem_map.1 he
      exact hMs.clock x hx
    · have e0 : left p seen l = l.filter fun x => !p x := by
        unfold left
        refine List.filter_congr fun x hx => ?_
        cases hp : p x with
        | false => simp
        | true =>
          cases hs : seen.contains x.born with
          | true => rfl
          | false =>
            have hxl : x ∈ left p seen l := List.mem_filter.2 ⟨hx, by rw [hs]; rfl⟩
            have := hall _ (List.mem_map.2 ⟨x, hxl, rfl⟩)
            have h9 : seen.contains x.born = true := by simpa using this
            rw [hs] at h9; cases h9
      rw [e0] at hMs
      exact ⟨hMs, hU⟩
    · obtain ⟨x, hx, rfl⟩ := List.mem_map.1 he
      have hfb := find_born hMs.born hx
      have hbk : (seen.push x.born).back? = some x.born := Array.back?_push ..
      have hxl : x ∈ l := (List.mem_filter.1 hx).1
      have hns' : seen.contains x.born = false := by simpa using hns
      dsimp only at hbk ⊢
      have hxa : x.agg = .agg #[x.key, x.val, .int .i64 x.goes, .int .i64 x.put] := rfl
      have hxc : x.agg.cells = #[x.key, x.val, .int .i64 x.goes, .int .i64 x.put] := cells_agg
      have hx1 := x.one
      simp (config := { dsimp := false, maxSteps := 10000000 }) (disch := omega) only [go_sem, reduceIte, Nat.reduceEqDiff, reduceCtorEq, Nat.reduceAdd, Nat.reduceMul, Int.reduceToNat, Int.reduceLE, Int.reduceLT, Int.reduceEq, Int.reduceNe, Nat.reduceLeDiff, Int.reducePow, Nat.reducePow, Nat.reduceLT, Nat.reduceSub, Nat.reduceMod, Nat.reduceDiv, slot_neg, slot_pos, T.ag_93, T.ii_3, T.mt_88, T.s8_3, T.sl_3, T.st_3, T.un_3, T.zo_93, T.zv_93, hbk, hfb, hMs.at_, q0, q1, q7, hxc, hx1.1, hx1.2]
      refine ⟨hg, ?_⟩
      obtain ⟨Hc, hHc⟩ : ∃ Hc, ((H.put h.next (.live (.iter (some id) cl (seen.push x.born) cl .own))).alloc (.cells [.int .i64 0, .int .i64 0, .int .i64 0, .int .i64 0] .own)).put H.next (.live (.cells [x.key, x.val, .int .i64 x.goes, .int .i64 x.put] .own)) = Hc := ⟨_, rfl⟩
      rw [hHc]
      have hMlt := hMs.lt
      have uc : Upd H Hc [h.next] := by rw [← hHc]; exact (((Upd.refl H [h.next]).put (.inl (by simp))).allocs).put (.inr (Nat.le_refl _))
      have hitc : Hc.get h.next = .live (.iter (some id) cl (seen.push x.born) cl .own) := by rw [← hHc, get_put, if_neg (by omega), get_alloc, if_neg (by rw [next_put]; omega), get_put, if_pos rfl]
      have hnc : H.next < Hc.next := by rw [← hHc]; exact Nat.lt_succ_self _
      clear hHc
      have hUc : Upd h Hc [id] := hU.trans uc fun d hd => by simp at hd; right; omega
      have hMc : MapT kd Hc id (left p seen l) cl := hMs.upd uc (by simp; omega)
      have hmeas : (l.filter fun y => !(seen.push x.born).contains y.born).length < (l.filter fun y => !seen.contains y.born).length := by
        have e0 : (l.filter fun y => !(seen.push x.born).contains y.born) = (l.filter fun y => !seen.contains y.born).filter fun y => !(y.born == x.born) := by
          rw [List.filter_filter]
          refine List.filter_congr fun y hy => ?_
          rw [Array.contains_push]
          cases h1 : seen.contains y.born <;> cases h2 : y.born == x.born <;> simp_all
        rw [e0]
        refine List.length_filter_lt_length_iff_exists.2 ⟨x, List.mem_filter.2 ⟨hxl, by rw [hns']; rfl⟩, by simp⟩
      refine CallsH.pure _ rfl (hf x hxl Hc hUc) ?_
      cases hp : p x with
      | true =>
        obtain ⟨i, hi⟩ := List.getElem?_of_mem hx
        have hfs := find_some hkd (left p seen l) 0 i x hMc.keys hMc.one hi
        rw [Nat.zero_add] at hfs
        simp (config := { dsimp := false, maxSteps := 10000000 }) (disch := omega) only [go_sem, reduceIte, Nat.reduceEqDiff, reduceCtorEq, Nat.reduceAdd, Nat.reduceMul, Int.reduceToNat, Int.reduceLE, Int.reduceLT, Int.reduceEq, Int.reduceNe, Nat.reduceLeDiff, Int.reducePow, Nat.reducePow, Nat.reduceLT, Nat.reduceSub, Nat.reduceMod, Nat.reduceDiv, slot_neg, slot_pos, T.ag_93, T.ii_3, T.mt_88, T.s8_3, T.sl_3, T.st_3, T.un_3, T.zo_93, T.zv_93, q0, q1, q7, hMc.at_, hfs]
        have e1 : left p (seen.push x.born) l = (left p seen l).eraseIdx i := by
          rw [erase_filter hMc.born hi]
          unfold left
          rw [List.filter_filter]
          refine List.filter_congr fun y hy => ?_
          rw [Array.contains_push]
          cases h2 : y.born == x.born with
          | true =>
            have : y = x := born_inj hM.born hy hxl (by simpa using h2)
            subst this
            rw [hp]; simp
          | false => cases seen.contains y.born <;> cases p y <;> rfl
        have e2 : (ents (left p seen l)).eraseIdx i = ents (left p (seen.push x.born) l) := by rw [e1]; exact ents_erase ..
        rw [e2]
        refine ⟨hkt _ (hMs.keys x hx), ⟨seen.push x.born, hUc.put (.inl (by simp)), ?_, hitc, by omega⟩, by rw [hitc, hit]; exact hmeas⟩
        exact hMc.sub (by rw [e1]; exact List.eraseIdx_sublist ..)
      | false =>
        simp (config := { dsimp := false, maxSteps := 10000000 }) (disch := omega) only [go_sem, reduceIte, Nat.reduceEqDiff, reduceCtorEq, Nat.reduceAdd, Nat.reduceMul, Int.reduceToNat, Int.reduceLE, Int.reduceLT, Int.reduceEq, Int.reduceNe, Nat.reduceLeDiff, Int.reducePow, Nat.reducePow, Nat.reduceLT, Nat.reduceSub, Nat.reduceMod, Nat.reduceDiv, slot_neg, slot_pos, T.ag_93, T.ii_3, T.mt_88, T.s8_3, T.sl_3, T.st_3, T.un_3, T.zo_93, T.zv_93, q0, q1, q7]
        have e1 : left p (seen.push x.born) l = left p seen l := by
          unfold left
          refine List.filter_congr fun y hy => ?_
          rw [Array.contains_push]
          cases h2 : y.born == x.born with
          | true =>
            have : y = x := born_inj hM.born hy hxl (by simpa using h2)
            subst this
            rw [hp]; simp
          | false => cases seen.contains y.born <;> cases p y <;> rfl
        exact ⟨⟨seen.push x.born, hUc, by rw [e1]; exact hMc, hitc, by omega⟩, by rw [hitc, hit]; exact hmeas⟩

end Ph
