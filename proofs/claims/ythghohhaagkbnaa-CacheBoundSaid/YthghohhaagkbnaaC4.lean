import Derived.Test.YthghohhaagkbnaaC3
set_option maxRecDepth 100000
set_option maxHeartbeats 4000000
set_option linter.unusedSimpArgs false
set_option linter.unusedVariables false
namespace Ph
open Go Go.Proofs
attribute [local irreducible] Value.cells
attribute [local go_sem ↓] y_move y_assign y_pick y_nil y_bin y_un y_fa y_field y_ext y_ia y_ix y_slice y_build y_mf y_rg y_nx y_en y_mm y_lk y_mu y_del y_load y_len y_min y_max y_conv y_bs y_mk y_alloc y_box y_store y_clear y_app y_callf y_callt s_move s_assign s_pick s_nil s_bin s_un s_fa s_field s_ext s_ia s_ix s_slice s_conv s_build s_bs s_mf s_alloc s_box s_rg s_nx s_en s_mm s_lk s_mu s_del s_load s_store s_len s_clear s_min s_max s_app s_call q_call q_move q_assign q_pick q_nil q_bin q_un q_fa q_field q_ext q_ia q_ix q_slice q_conv q_build q_mf q_lk q_load q_len q_min q_max l_nil l_move l_assign l_pick l_nilc l_bin l_un l_fa l_field l_ext l_ia l_ix l_slice l_conv l_build l_mf l_lk l_load l_len l_min l_max l_call put_eq putN_eq o_nil o_plain o_gate v_nil v_plain v_gate vc_skip vc_region vc_seq vc_cond vc_block vc_loop vc_rf vc_exit vc_ret blk_normal blk_ret blk_exit on_normal on_ret on_exit vc_drawn draw_q s_mk l_bs l_mk l_rg l_nx l_en l_mm l_mu l_del l_alloc l_box l_store l_app l_clear pl_done pl_takeS pl_take pl_alt pl_stop one_plain one_gate
attribute [local go_sem] clear_nil clear_sl onAgg_a onTuple_t onFn_f onFn_y onFunc_f c_int c_nil c_sl c_str sl_sl sl_nil sl_str ix_str ix_agg n_nil n_sl n_str app_eq k_nil k_sl len_sl len_str len_mn len_m onMap_m onIter_i rg_n rg_m nx_p en_p lk_n lk_m up_m setM_n setM_s del_n del_m kt_s kt_i upd_some upd_none ev_tmp ev_const ev_func rd_some gdst_eq otmp_t otmp_c get_put get_alloc next_put next_alloc get_app next_app init_a resV1 resV2 onPtr_ptr onBool_b onInt_i onSlice_s onSome_s onCells_c lett_eq gate_tt gate_tf gate_ff gate_ft gate_dt gate_df also_eq bin un minmax io_none io_some bo_none bo_some partOf List.getElem?_cons_zero List.getElem?_cons_succ List.getElem?_toArray Option.map_some Option.map_none Option.bind_some ne_eq not_true_eq_false not_false_eq_true false_implies true_implies and_true true_and and_self Bool.false_eq_true Nat.zero_add Nat.add_zero List.size_toArray List.length_cons List.length_nil List.map_toArray List.map_cons List.map_nil Array.getD_eq_getD_getElem? Option.getD_some Bool.not_true Bool.not_false Bool.not_eq_true Option.isNone_some Option.isNone_none List.append_toArray List.append_nil List.nil_append List.cons_append decide_true decide_false in_nil in_cons Bool.and_false Bool.and_true Bool.or_false Bool.true_or Bool.false_or get_mask next_mask get_unmask next_unmask ac_move ac_assign ac_pick ac_nil ac_bin ac_un ac_fa ac_field ac_ext ac_ia ac_ix ac_slice ac_build ac_mf ac_call ac_len ac_lk ac_min ac_max accM_m accM_n accM_s accM_t ac_load ac_conv accP_p accS_s accS_n accS_i accS_t fixed_ro fixed_lock fixed_own get_ro next_ro lock_live' lock_cells List.mem_cons List.not_mem_nil or_false false_or or_true true_or and_false false_and IntKind.bits Int.natCast_zero Int.natCast_one size_str data_str list_str mk_str ext_str app_str bytes_str w_byte w_byteu Int.toNat_natCast Int.toNat_zero Int.toNat_one Nat.sub_zero ge_iff_le gt_iff_lt Nat.le_refl Int.le_refl List.drop_zero Int.ofNat_eq_natCast Int.natCast_nonneg Int.sub_zero oc_int oc_bool oc_str oc_ptr oc_sl oc_map oc_func List.set_cons_zero List.set_cons_succ Nat.mul_one List.all_cons List.all_nil Bool.and_self res_nil res_tmp res_cell tup_one tup_two tup_nil fill_nil repl_zero cells_agg List.append_eq List.toList_toArray Nat.zero_mul Nat.one_mul repl_one repl_two onSome_build fill_cons onSome_lit splice_eq cells_int cells_bool cells_str cells_ptr cells_sl cells_map cells_func loadK_n loadK_s load_k storeK_n storeK_s store_k all_arr List.take_zero List.take_succ_cons List.drop_succ_cons List.take_nil List.drop_nil lk_own lk_ro lk_lock lk_lk fixed_lk gate_nt gate_nf gate3_b gate3_u undef Bool.true_and Bool.false_and nx_l nx_r nx_lt put_put resV0
def thE : Enc Th := ⟨4, fun x => [x.key, x.val, .int .i64 x.goes, .int .i64 x.put], fun _ => rfl, fun x => by simp [x.one.1, x.one.2]; exact ⟨rfl, rfl⟩⟩
theorem nodup_len {α : Type} : ∀ {s l : List α}, s.Nodup → (∀ x ∈ s, x ∈ l) → s.length ≤ l.length
  | [], l, _, _ => Nat.zero_le _
  | x :: s, l, h1, h2 => by
    obtain ⟨a, b, rfl⟩ := List.append_of_mem (h2 x (by simp))
    rw [List.nodup_cons] at h1
    have := nodup_len (l := a ++ b) h1.2 fun y hy => by
      have h3 := h2 y (by simp [hy])
      have h4 : y ≠ x := fun e => h1.1 (e ▸ hy)
      simp at h3 ⊢
      rcases h3 with h | h | h
      · exact .inl h
      · exact absurd h h4
      · exact .inr h
    simp at this ⊢; omega
def iE : Enc Int := ⟨1, fun n => [.int .i64 n], fun _ => rfl, fun _ => rfl⟩
def cmpS (a b : Int) : Int := if a < b then -1 else if b < a then 1 else 0
def ordS (x y : Th) : Int := if cmpS x.goes y.goes ≠ 0 then cmpS x.goes y.goes else cmpS x.put y.put
def leT (x y : Th) : Prop := x.goes < y.goes ∨ (x.goes = y.goes ∧ x.put ≤ y.put)
theorem ord_lt (x y : Th) : (ordS y x < 0) = ¬ leT x y := by
  unfold ordS cmpS leT
  repeat' split
  all_goals (simp only [eq_iff_iff]; omega)
theorem isNaN_ph (h : Heap) (a : Int) : @CallsH Try.prog 90 #[.int .i64 a] h ⟨fun u _ => u = .bool false⟩ := by
  (refine calls_of_vc [] hm Try.func90 rfl (ts := [2]) rfl (by kernel_rfl) (by simp) ?_; simp (config := { dsimp := false }) only [go_sem, reduceIte, Nat.reduceEqDiff, reduceCtorEq, Nat.reduceAdd, Nat.reduceMul, Int.reduceToNat, Int.reduceLE, Int.reduceLT, Int.reduceEq, Int.reduceNe, Nat.reduceLeDiff, Int.reducePow, Nat.reducePow, Nat.reduceLT, Nat.reduceSub, Nat.reduceMod, Nat.reduceDiv, T.ib_3, T.ip_3, init_a])
theorem Compare_ph (h : Heap) (a b : Int) : @CallsH Try.prog 74 #[.int .i64 a, .int .i64 b] h ⟨fun u _ => u = .int .i64 (cmpS a b)⟩ := by
  (refine calls_of_vc [] hm Try.func74 rfl (ts := [4]) rfl (by kernel_rfl) (by simp) ?_; simp (config := { dsimp := false, maxSteps := 10000000 }) (disch := omega) only [go_sem, reduceIte, Nat.reduceEqDiff, reduceCtorEq, Nat.reduceAdd, Nat.reduceMul, Int.reduceToNat, Int.reduceLE, Int.reduceLT, Int.reduceEq, Int.reduceNe, Nat.reduceLeDiff, Int.reducePow, Nat.reducePow, Nat.reduceLT, Nat.reduceSub, Nat.reduceMod, Nat.reduceDiv, slot_neg, slot_pos, T.gf_90, T.ib_3, T.ip_3, init_a])
  refine CallsH.pure _ rfl (isNaN_ph _ _) ?_
  simp (config := { dsimp := false, maxSteps := 10000000 }) (disch := omega) only [go_sem, reduceIte, Nat.reduceEqDiff, reduceCtorEq, Nat.reduceAdd, Nat.reduceMul, Int.reduceToNat, Int.reduceLE, Int.reduceLT, Int.reduceEq, Int.reduceNe, Nat.reduceLeDiff, Int.reducePow, Nat.reducePow, Nat.reduceLT, Nat.reduceSub, Nat.reduceMod, Nat.reduceDiv, slot_neg, slot_pos, T.gf_90, T.ib_3, T.ip_3]
  refine CallsH.pure _ rfl (isNaN_ph _ _) ?_
  by_cases h1 : a < b
  · simp (config := { dsimp := false, maxSteps := 10000000 }) (disch := omega) only [go_sem, reduceIte, Nat.reduceEqDiff, reduceCtorEq, Nat.reduceAdd, Nat.reduceMul, Int.reduceToNat, Int.reduceLE, Int.reduceLT, Int.reduceEq, Int.reduceNe, Nat.reduceLeDiff, Int.reducePow, Nat.reducePow, Nat.reduceLT, Nat.reduceSub, Nat.reduceMod, Nat.reduceDiv, slot_neg, slot_pos, T.gf_90, T.ib_3, T.ip_3, h1, cmpS]
  · by_cases h2 : b < a
    · simp (config := { dsimp := false, maxSteps := 10000000 }) (disch := omega) only [go_sem, reduceIte, Nat.reduceEqDiff, reduceCtorEq, Nat.reduceAdd, Nat.reduceMul, Int.reduceToNat, Int.reduceLE, Int.reduceLT, Int.reduceEq, Int.reduceNe, Nat.reduceLeDiff, Int.reducePow, Nat.reducePow, Nat.reduceLT, Nat.reduceSub, Nat.reduceMod, Nat.reduceDiv, slot_neg, slot_pos, T.gf_90, T.ib_3, T.ip_3, h1, h2, cmpS]
    · simp (config := { dsimp := false, maxSteps := 10000000 }) (disch := omega) only [go_sem, reduceIte, Nat.reduceEqDiff, reduceCtorEq, Nat.reduceAdd, Nat.reduceMul, Int.reduceToNat, Int.reduceLE, Int.reduceLT, Int.reduceEq, Int.reduceNe, Nat.reduceLeDiff, Int.reducePow, Nat.reducePow, Nat.reduceLT, Nat.reduceSub, Nat.reduceMod, Nat.reduceDiv, slot_neg, slot_pos, T.gf_90, T.ib_3, T.ip_3, h1, h2, cmpS]
theorem Or_ph (h : Heap) (q : Nat) (o : Own) (a b : Int) (hq : h.get q = .live (.cells [.int .i64 a, .int .i64 b] o)) : @CallsH Try.prog 73 #[.slice (some ⟨q, 0, none⟩) 2 1] h ⟨fun u _ => u = .int .i64 (if a ≠ 0 then a else b)⟩ := by
  (refine calls_of_vc [] hm Try.func73 rfl (ts := [2]) rfl (by kernel_rfl) (by simp) ?_; simp (config := { dsimp := false, maxSteps := 10000000 }) (disch := omega) only [go_sem, reduceIte, Nat.reduceEqDiff, reduceCtorEq, Nat.reduceAdd, Nat.reduceMul, Int.reduceToNat, Int.reduceLE, Int.reduceLT, Int.reduceEq, Int.reduceNe, Nat.reduceLeDiff, Int.reducePow, Nat.reducePow, Nat.reduceLT, Nat.reduceSub, Nat.reduceMod, Nat.reduceDiv, slot_neg, slot_pos, T.ag_3, T.es_22, T.ib_3, T.ii_22, T.ip_3, T.s8_22, T.sl_22, T.st_22, T.un_22, init_a, hq])
  refine loop_intro [] hm (fun r H => H = h ∧ r 3 = .int .i64 0 ∧ r 6 = .slice (some ⟨q, 0, none⟩) 2 1 ∧ r 7 = .int .i64 2 ∧ (r 8 = .int .i64 0 ∨ (r 8 = .int .i64 1 ∧ a = 0) ∨ (r 8 = .int .i64 2 ∧ a = 0 ∧ b = 0))) (fun r _ => match r 8 with | .int _ i => 3 - i.toNat | _ => 0) ?_ ?_
  · exact ⟨rfl, by simp [upd], by simp [upd, initR], by simp [upd], .inl (by simp [upd])⟩
  · rintro r H ⟨rfl, q3, q6, q7, hh⟩
    have z0 : IntKind.i64.wrap (0 + 1) = 1 := by decide
    have z1 : IntKind.i64.wrap (1 + 1) = 2 := by decide
    rcases hh with q8 | ⟨q8, ha⟩ | ⟨q8, ha, hb⟩
    · by_cases ha : a = 0
      · simp (config := { dsimp := false, maxSteps := 10000000 }) (disch := omega) only [go_sem, reduceIte, Nat.reduceEqDiff, reduceCtorEq, Nat.reduceAdd, Nat.reduceMul, Int.reduceToNat, Int.reduceLE, Int.reduceLT, Int.reduceEq, Int.reduceNe, Nat.reduceLeDiff, Int.reducePow, Nat.reducePow, Nat.reduceLT, Nat.reduceSub, Nat.reduceMod, Nat.reduceDiv, slot_neg, slot_pos, T.ag_3, T.es_22, T.ib_3, T.ii_22, T.ip_3, T.s8_22, T.sl_22, T.st_22, T.un_22, hq, q3, q6, q7, q8, ha, z0]
        simp
      · simp (config := { dsimp := false, maxSteps := 10000000 }) (disch := omega) only [go_sem, reduceIte, Nat.reduceEqDiff, reduceCtorEq, Nat.reduceAdd, Nat.reduceMul, Int.reduceToNat, Int.reduceLE, Int.reduceLT, Int.reduceEq, Int.reduceNe, Nat.reduceLeDiff, Int.reducePow, Nat.reducePow, Nat.reduceLT, Nat.reduceSub, Nat.reduceMod, Nat.reduceDiv, slot_neg, slot_pos, T.ag_3, T.es_22, T.ib_3, T.ii_22, T.ip_3, T.s8_22, T.sl_22, T.st_22, T.un_22, hq, q3, q6, q7, q8, ha]
        simp
    · by_cases hb : b = 0
      · simp (config := { dsimp := false, maxSteps := 10000000 }) (disch := omega) only [go_sem, reduceIte, Nat.reduceEqDiff, reduceCtorEq, Nat.reduceAdd, Nat.reduceMul, Int.reduceToNat, Int.reduceLE, Int.reduceLT, Int.reduceEq, Int.reduceNe, Nat.reduceLeDiff, Int.reducePow, Nat.reducePow, Nat.reduceLT, Nat.reduceSub, Nat.reduceMod, Nat.reduceDiv, slot_neg, slot_pos, T.ag_3, T.es_22, T.ib_3, T.ii_22, T.ip_3, T.s8_22, T.sl_22, T.st_22, T.un_22, hq, q3, q6, q7, q8, ha, hb, z1]
        simp
      · simp (config := { dsimp := false, maxSteps := 10000000 }) (disch := omega) only [go_sem, reduceIte, Nat.reduceEqDiff, reduceCtorEq, Nat.reduceAdd, Nat.reduceMul, Int.reduceToNat, Int.reduceLE, Int.reduceLT, Int.reduceEq, Int.reduceNe, Nat.reduceLeDiff, Int.reducePow, Nat.reducePow, Nat.reduceLT, Nat.reduceSub, Nat.reduceMod, Nat.reduceDiv, slot_neg, slot_pos, T.ag_3, T.es_22, T.ib_3, T.ii_22, T.ip_3, T.s8_22, T.sl_22, T.st_22, T.un_22, hq, q3, q6, q7, q8, ha, hb]
        simp
    · simp (config := { dsimp := false, maxSteps := 10000000 }) (disch := omega) only [go_sem, reduceIte, Nat.reduceEqDiff, reduceCtorEq, Nat.reduceAdd, Nat.reduceMul, Int.reduceToNat, Int.reduceLE, Int.reduceLT, Int.reduceEq, Int.reduceNe, Nat.reduceLeDiff, Int.reducePow, Nat.reducePow, Nat.reduceLT, Nat.reduceSub, Nat.reduceMod, Nat.reduceDiv, slot_neg, slot_pos, T.ag_3, T.es_22, T.ib_3, T.ii_22, T.ip_3, T.s8_22, T.sl_22, T.st_22, T.un_22, hq, q3, q6, q7, q8, ha, hb]
/-- maps.Values: what it goes over -/
theorem ValuesSN (b id : Nat) (l : List Th) (cl : Nat) (hb : l.Pairwise fun a b => a.born < b.born) (hcl : ∀ x ∈ l, x.born < cl) :
    SeqN Try.prog 88 #[.pointer (some ⟨b, 0, none⟩)] (fun x : Th => #[x.agg]) (fun s x => x ∈ l ∧ x ∉ s ∧ s.Nodup ∧ ∀ y ∈ s, y ∈ l) (fun s => s.Perm l) (fun H => ∃ o, H.get b = .live (.cells [.map (some id)] o) ∧ H.get id = .live (.map (ents l) cl .own) ∧ id < H.next) := by
  intro yid J Jx h h0 hreq hst hJD hY
  obtain ⟨o, gb, gm, hidn⟩ := hreq _ _ _ h0
  have nid : (id = h.next) = False := eq_false (by omega)
  (refine calls_of_vc [] hm Try.func88 rfl (ts := []) rfl (by kernel_rfl) (by simp) ?_; simp (config := { dsimp := false, maxSteps := 10000000 }) (disch := omega) only [go_sem, reduceIte, Nat.reduceEqDiff, reduceCtorEq, Nat.reduceAdd, Nat.reduceMul, Int.reduceToNat, Int.reduceLE, Int.reduceLT, Int.reduceEq, Int.reduceNe, Nat.reduceLeDiff, Int.reducePow, Nat.reducePow, Nat.reduceLT, Nat.reduceSub, Nat.reduceMod, Nat.reduceDiv, slot_neg, slot_pos, T.ag_134, T.ag_136, T.ii_9, T.mt_136, T.s8_9, T.sl_9, T.st_9, T.un_9, T.zo_134, T.zv_134, init_a, gb, gm])
  refine loop_intro [] hm (fun r H => ∃ s D, s.Nodup ∧ (∀ x ∈ s, x ∈ l) ∧ J s D H ∧ (∀ d ∈ D, h.next < d) ∧ H.get h.next = .live (.iter (some id) cl (s.map (·.born)).toArray cl .own) ∧ h.next < H.next ∧ r 0 = .func (.yield yid) #[] #[] ∧ r 6 = .pointer (some ⟨h.next, 0, none⟩)) (fun _ H => match H.get h.next with | .live (.iter _ _ seen _ _) => (l.filter fun x => !seen.contains x.born).length | _ => 0) ?_ ?_
  · exact ⟨[], [], List.nodup_nil, by simp, hst _ _ _ _ h0 (Nat.le_succ _) fun k hk _ => by rw [get_alloc, if_neg (by omega)], by simp, by rw [get_alloc, if_pos rfl]; rfl, Nat.lt_succ_self _, by simp [upd, initR], by simp [upd]⟩
  · rintro r H ⟨s, D, hsn, hsl, hJ, hDn, hit, hnx, q0, q6⟩
    obtain ⟨o, gb, gm, _⟩ := hreq _ _ _ hJ
    simp (config := { dsimp := false, maxSteps := 10000000 }) (disch := omega) only [go_sem, reduceIte, Nat.reduceEqDiff, reduceCtorEq, Nat.reduceAdd, Nat.reduceMul, Int.reduceToNat, Int.reduceLE, Int.reduceLT, Int.reduceEq, Int.reduceNe, Nat.reduceLeDiff, Int.reducePow, Nat.reducePow, Nat.reduceLT, Nat.reduceSub, Nat.reduceMod, Nat.reduceDiv, slot_neg, slot_pos, T.ag_134, T.ag_136, T.ii_9, T.mt_136, T.s8_9, T.sl_9, T.st_9, T.un_9, T.zo_134, T.zv_134, q0, q6, hit, gm, nid]
    have hcon : ∀ x ∈ l, (s.map (·.born)).toArray.contains x.born = true ↔ x ∈ s := fun x hx => by
      rw [List.contains_toArray, List.contains_iff_mem, List.mem_map]
      exact ⟨fun ⟨y, hy, e⟩ => born_inj hb (hsl y hy) hx e ▸ hy, fun h => ⟨x, h, rfl⟩⟩
    refine ⟨fun e he => ?_, fun hall => ?_, fun e he hns => ?_⟩
    · obtain ⟨x, hx, rfl⟩ := List.mem_map.1 he
      exact hcl x hx
    · refine .inl ⟨s, D, ?_, hJ, by omega⟩
      refine (List.perm_ext_iff_of_nodup hsn (hb.imp fun h e => by subst e; omega)).2 fun x => ⟨hsl x, fun hx => (hcon x hx).1 ?_⟩
      simpa using hall _ (List.mem_map.2 ⟨x, hx, rfl⟩)
    · obtain ⟨x, hx, rfl⟩ := List.mem_map.1 he
      have hfb := find_born hb hx
      have hbk : ((s.map (·.born)).toArray.push x.born).back? = some x.born := Array.back?_push ..
      have hxs : x ∉ s := fun h9 => by
        have h8 := (hcon x hx).2 h9
        have h7 : (s.map (·.born)).toArray.contains x.born = false := by simpa using hns
        rw [h8] at h7; cases h7
      have hpush : (s.map (·.born)).toArray.push x.born = ((s ++ [x]).map (·.born)).toArray := by simp
      rw [hpush] at hbk ⊢
      try dsimp only at hbk ⊢
      have hxc : x.agg.cells = #[x.key, x.val, .int .i64 x.goes, .int .i64 x.put] := cells_agg
      have hx1 := x.one
      simp (config := { dsimp := false, maxSteps := 10000000 }) (disch := omega) only [go_sem, reduceIte, Nat.reduceEqDiff, reduceCtorEq, Nat.reduceAdd, Nat.reduceMul, Int.reduceToNat, Int.reduceLE, Int.reduceLT, Int.reduceEq, Int.reduceNe, Nat.reduceLeDiff, Int.reducePow, Nat.reducePow, Nat.reduceLT, Nat.reduceSub, Nat.reduceMod, Nat.reduceDiv, slot_neg, slot_pos, T.ag_134, T.ag_136, T.ii_9, T.mt_136, T.s8_9, T.sl_9, T.st_9, T.un_9, T.zo_134, T.zv_134, hbk, hfb, gm, nid, q0, q6, hxc, hx1.1, hx1.2]
      obtain ⟨Hc, hHc⟩ : ∃ Hc, ((H.put h.next (.live (.iter (some id) cl ((s ++ [x]).map (·.born)).toArray cl .own))).alloc (.cells [.string (str []), .int .i64 0, .int .i64 0, .int .i64 0] .own)).put H.next (.live (.cells [x.key, x.val, .int .i64 x.goes, .int .i64 x.put] .own)) = Hc := ⟨_, rfl⟩
      rw [hHc]
      have uc : Upd H Hc [h.next] := by rw [← hHc]; exact (((Upd.refl H [h.next]).put (.inl (by simp))).allocs).put (.inr (Nat.le_refl _))
      have hitc : Hc.get h.next = .live (.iter (some id) cl ((s ++ [x]).map (·.born)).toArray cl .own) := by rw [← hHc, get_put, if_neg (by omega), get_alloc, if_neg (by rw [next_put]; omega), get_put, if_pos rfl]
      have hnc : H.next < Hc.next := by rw [← hHc]; exact Nat.lt_succ_self _
      clear hHc
      have hJc : J s D Hc := hst _ _ _ _ hJ (by omega) fun k hk hc => uc.2 k hk (by
        simp only [List.mem_singleton]
        rcases hc with h1 | h1
        · omega
        · have := hDn k h1; omega)
      refine (hY s x D Hc ⟨hx, hxs, hsn, hsl⟩ hJc (by omega)).mono fun u H' hu => ?_
      rcases hu with ⟨rfl, D', hJ', hD', hn', hk'⟩ | ⟨rfl, hX⟩
      · simp (config := { dsimp := false, maxSteps := 10000000 }) (disch := omega) only [go_sem, reduceIte, Nat.reduceEqDiff, reduceCtorEq, Nat.reduceAdd, Nat.reduceMul, Int.reduceToNat, Int.reduceLE, Int.reduceLT, Int.reduceEq, Int.reduceNe, Nat.reduceLeDiff, Int.reducePow, Nat.reducePow, Nat.reduceLT, Nat.reduceSub, Nat.reduceMod, Nat.reduceDiv, slot_neg, slot_pos, T.ag_134, T.ag_136, T.ii_9, T.mt_136, T.s8_9, T.sl_9, T.st_9, T.un_9, T.zo_134, T.zv_134, q0, q6]
        have hit' := (hk' h.next (by omega) (Nat.le_refl _) (fun hd => by have := hDn _ hd; omega)).trans hitc
        refine ⟨⟨s ++ [x], D', ?_, fun y hy => ?_, hJ', fun d hd => ?_, hit', by omega⟩, ?_⟩
        · rw [List.nodup_append]
          exact ⟨hsn, by simp, fun a ha b hb => by simp at hb; subst hb; exact fun e => hxs (e ▸ ha)⟩
        · rcases List.mem_append.1 hy with h1 | h1
          · exact hsl y h1
          · simp at h1; exact h1 ▸ hx
        · rcases hD' d hd with h1 | h1
          · exact hDn d h1
          · omega
        · rw [hit', hit]
          dsimp only
          have e0 : (l.filter fun y => !((s ++ [x]).map (·.born)).toArray.contains y.born) = (l.filter fun y => !(s.map (·.born)).toArray.contains y.born).filter fun y => !(y.born == x.born) := by
            rw [List.filter_filter]
            refine List.filter_congr fun y hy => ?_
            rw [← hpush, Array.contains_push]
            cases h1 : (s.map (·.born)).toArray.contains y.born <;> cases h2 : y.born == x.born <;> simp_all
          rw [e0]
          refine List.length_filter_lt_length_iff_exists.2 ⟨x, List.mem_filter.2 ⟨hx, ?_⟩, by simp⟩
          cases h1 : (s.map (·.born)).toArray.contains x.born with
          | false => rfl
          | true => exact absurd ((hcon x hx).1 h1) hxs
      · simp (config := { dsimp := false, maxSteps := 10000000 }) (disch := omega) only [go_sem, reduceIte, Nat.reduceEqDiff, reduceCtorEq, Nat.reduceAdd, Nat.reduceMul, Int.reduceToNat, Int.reduceLE, Int.reduceLT, Int.reduceEq, Int.reduceNe, Nat.reduceLeDiff, Int.reducePow, Nat.reducePow, Nat.reduceLT, Nat.reduceSub, Nat.reduceMod, Nat.reduceDiv, slot_neg, slot_pos, T.ag_134, T.ag_136, T.ii_9, T.mt_136, T.s8_9, T.sl_9, T.st_9, T.un_9, T.zo_134, T.zv_134, q0, q6]
        exact .inr hX
theorem ValuesS_ph (h : Heap) (id : Nat) : @CallsH Try.prog 63 #[.map (some id)] h ⟨fun u H => u = .func (.func 88) #[] #[.pointer (some ⟨h.next, 0, none⟩)] ∧ H = h.alloc (.cells [.map (some id)] .own)⟩ := by
  (refine calls_of_vc [] hm Try.func63 rfl (ts := [2]) rfl (by kernel_rfl) (by simp) ?_; simp (config := { dsimp := false }) only [go_sem, reduceIte, Nat.reduceEqDiff, reduceCtorEq, Nat.reduceAdd, Nat.reduceMul, Int.reduceToNat, Int.reduceLE, Int.reduceLT, Int.reduceEq, Int.reduceNe, Nat.reduceLeDiff, Int.reducePow, Nat.reducePow, Nat.reduceLT, Nat.reduceSub, Nat.reduceMod, Nat.reduceDiv, init_a])
/-- slices.AppendSeq to nothing of all that is in a map -/
theorem AppendS_ph (h : Heap) (b id : Nat) (l : List Th) (cl : Nat) (hb : l.Pairwise fun a b => a.born < b.born) (hcl : ∀ x ∈ l, x.born < cl) (hll : l.length ≤ 10000) (o : Own) (gb : h.get b = .live (.cells [.map (some id)] o)) (gm : h.get id = .live (.map (ents l) cl .own)) (hbn : b < h.next) (hidn : id < h.next) :
    @CallsH Try.prog 87 #[.slice none 0 0, .func (.func 88) #[] #[.pointer (some ⟨b, 0, none⟩)]] h ⟨fun u H => ∃ s D, s.Perm l ∧ OwnRow thE H u D s ∧ (∀ d ∈ D, h.next ≤ d) ∧ Upd h H []⟩ := by
  (refine calls_of_codeR (rs := [.tmp 4]) Try.func87 rfl rfl (by simp) ?_)
  (refine CodeH.seq' (CodeH.of_vc [] hm (by kernel_rfl) ?_); simp (config := { dsimp := false, maxSteps := 10000000 }) (disch := omega) only [go_sem, reduceIte, Nat.reduceEqDiff, reduceCtorEq, Nat.reduceAdd, Nat.reduceMul, Int.reduceToNat, Int.reduceLE, Int.reduceLT, Int.reduceEq, Int.reduceNe, Nat.reduceLeDiff, Int.reducePow, Nat.reducePow, Nat.reduceLT, Nat.reduceSub, Nat.reduceMod, Nat.reduceDiv, slot_neg, slot_pos, T.ag_134, T.ag_140, T.eb_140, T.ez_140, T.ii_140, T.s8_140, T.sl_140, T.st_140, T.un_140, T.zo_134, init_a])
  (refine CodeH.seq' (CodeH.of_vc [] hm (by kernel_rfl) ?_); simp (config := { dsimp := false, maxSteps := 10000000 }) (disch := omega) only [go_sem, reduceIte, Nat.reduceEqDiff, reduceCtorEq, Nat.reduceAdd, Nat.reduceMul, Int.reduceToNat, Int.reduceLE, Int.reduceLT, Int.reduceEq, Int.reduceNe, Nat.reduceLeDiff, Int.reducePow, Nat.reducePow, Nat.reduceLT, Nat.reduceSub, Nat.reduceMod, Nat.reduceDiv, slot_neg, slot_pos, T.ag_134, T.ag_140, T.eb_140, T.ez_140, T.ii_140, T.s8_140, T.sl_140, T.st_140, T.un_140, T.zo_134, init_a])
  have g0 : (h.alloc (.cells [.slice none 0 0] .own)).get h.next = .live (.cells [.slice none 0 0] .own) := by rw [get_alloc, if_pos rfl]
  have hU1 : Upd h (h.alloc (.cells [.slice none 0 0] .own)) [] := Upd.alloc _ _ _
  have hn1 : (h.alloc (.cells [.slice none 0 0] .own)).next = h.next + 1 := rfl
  revert g0 hU1 hn1
  generalize h.alloc (.cells [.slice none 0 0] .own) = H1
  intro g0 hU1 hn1
  refine RF.gen (fun r => r 2 = .pointer (some ⟨h.next, 0, none⟩) ∧ r 6 = .func (.func 88) #[] #[.pointer (some ⟨b, 0, none⟩)]) ⟨by simp [upd], by simp [upd, initR]⟩ fun r ⟨q2, q6⟩ => ?_
  refine range_overN q6 (by kernel_rfl) (ValuesSN b id l cl hb hcl) (fun x => rfl) (fun s D H => h.next + 2 ≤ H.next ∧ ∃ vo, H.get h.next = .live (.cells [vo] .own) ∧ OwnRow thE H vo D s ∧ (∀ d ∈ D, h.next + 2 ≤ d) ∧ Upd h H []) ?_ ?_ ?_ ?_ ?_ ?_
  · intro H hu1 hn2
    exact ⟨by omega, _, (hu1.2 _ (by omega) (by simp)).trans g0, OwnRow.nil _, by simp, hU1.trans hu1 (by simp)⟩
  · rintro s D H ⟨_, _, _, _, _, hu⟩
    exact ⟨o, (hu.2 b hbn (by simp)).trans gb, (hu.2 id hidn (by simp)).trans gm, by omega⟩
  · rintro s D H H' ⟨a1, vo, a2, a3, a4, a5⟩ hn hk
    exact ⟨by omega, vo, (hk _ (by omega) (.inl (by omega))).trans a2, a3.keep hn fun d hd => hk d (a3.lt d hd) (.inr hd), a4, ⟨by have := a5.1; omega, fun k hk1 hk2 => (hk k (by omega) (.inl (by omega))).trans (a5.2 k hk1 hk2)⟩⟩
  · rintro s D H ⟨a1, vo, a2, a3, a4, a5⟩ d hd
    have := a4 d hd
    have := a3.lt d hd
    omega
  · rintro s D H x hfin ⟨a1, vo, a2, a3, a4, a5⟩ hlt
    rw [hn1]
    obtain ⟨Hx, hHx⟩ : ∃ Hx, H.put (h.next + 1) x = Hx := ⟨_, rfl⟩
    rw [hHx]
    have e2 : Hx.get h.next = .live (.cells [vo] .own) := by rw [← hHx, get_put, if_neg (by omega)]; exact a2
    have e3 : OwnRow thE Hx vo D s := a3.keep (by rw [← hHx, next_put]; exact Nat.le_refl _) fun d hd => by rw [← hHx, get_put, if_neg (by have := a4 d hd; omega)]
    have e8 : Upd h Hx [] := by rw [← hHx]; exact a5.put (.inr (by omega))
    clear hHx
    have ho := e3.row.one
    simp (config := { dsimp := false, maxSteps := 10000000 }) (disch := omega) only [go_sem, reduceIte, Nat.reduceEqDiff, reduceCtorEq, Nat.reduceAdd, Nat.reduceMul, Int.reduceToNat, Int.reduceLE, Int.reduceLT, Int.reduceEq, Int.reduceNe, Nat.reduceLeDiff, Int.reducePow, Nat.reducePow, Nat.reduceLT, Nat.reduceSub, Nat.reduceMod, Nat.reduceDiv, slot_neg, slot_pos, T.ag_134, T.ag_140, T.eb_140, T.ez_140, T.ii_140, T.s8_140, T.sl_140, T.st_140, T.un_140, T.zo_134]
    (refine CodeH.of_vc [] hm (by kernel_rfl) ?_; simp (config := { dsimp := false, maxSteps := 10000000 }) (disch := omega) only [go_sem, reduceIte, Nat.reduceEqDiff, reduceCtorEq, Nat.reduceAdd, Nat.reduceMul, Int.reduceToNat, Int.reduceLE, Int.reduceLT, Int.reduceEq, Int.reduceNe, Nat.reduceLeDiff, Int.reducePow, Nat.reducePow, Nat.reduceLT, Nat.reduceSub, Nat.reduceMod, Nat.reduceDiv, slot_neg, slot_pos, T.ag_134, T.ag_140, T.eb_140, T.ez_140, T.ii_140, T.s8_140, T.sl_140, T.st_140, T.un_140, T.zo_134, init_a, q2, e2, ho.1, ho.2])
    exact ⟨s, D, hfin, e3, fun d hd => by have := a4 d hd; omega, e8⟩
  · rintro n s x D H B k1 k2 ⟨hx, hxs, hsn, hsl⟩ ⟨a1, vo, a2, a3, a4, a5⟩ hB hlt2
    have hsl2 := nodup_len hsn hsl
    rw [show ∀ a : Value, setP r (#[7] : Array Nat).toList (#[a] : Array Value).toList = upd r (some 7) a from fun _ => rfl]
    refine CodeH.of_vc [] hm k1 ?_
    have hxc : x.agg.cells = #[x.key, x.val, .int .i64 x.goes, .int .i64 x.put] := cells_agg
    have hx1 := x.one
    simp (config := { dsimp := false, maxSteps := 10000000 }) (disch := omega) only [go_sem, reduceIte, Nat.reduceEqDiff, reduceCtorEq, Nat.reduceAdd, Nat.reduceMul, Int.reduceToNat, Int.reduceLE, Int.reduceLT, Int.reduceEq, Int.reduceNe, Nat.reduceLeDiff, Int.reducePow, Nat.reducePow, Nat.reduceLT, Nat.reduceSub, Nat.reduceMod, Nat.reduceDiv, slot_neg, slot_pos, T.ag_134, T.ag_140, T.eb_140, T.ez_140, T.ii_140, T.s8_140, T.sl_140, T.st_140, T.un_140, T.zo_134, hB, hxc, hx1.1, hx1.2]
    rw [hn1] at hB hlt2 ⊢
    obtain ⟨Ha, hHa⟩ : ∃ Ha, (H.alloc (.cells [.string (str []), .int .i64 0, .int .i64 0, .int .i64 0] .own)).put H.next (.live (.cells [x.key, x.val, .int .i64 x.goes, .int .i64 x.put] .own)) = Ha := ⟨_, rfl⟩
    rw [hHa]
    have ua : Upd H Ha [] := by rw [← hHa]; exact (Upd.alloc _ _ _).put (.inr (Nat.le_refl _))
    have ga : Ha.get H.next = .live (.cells [x.key, x.val, .int .i64 x.goes, .int .i64 x.put] .own) := by rw [← hHa, get_put, if_pos rfl]
    have na : H.next < Ha.next := by rw [← hHa]; exact Nat.lt_succ_self _
    clear hHa
    refine fun B' => CodeH.of_vc [] hm k2 ?_
    obtain ⟨Hb, hHb⟩ : ∃ Hb, Ha.put (h.next + 1) B' = Hb := ⟨_, rfl⟩
    rw [hHb]
    have e2 : Hb.get h.next = .live (.cells [vo] .own) := by rw [← hHb, get_put, if_neg (by omega), ua.2 _ (by omega) (by simp)]; exact a2
    have eB : Hb.get (h.next + 1) = B' := by rw [← hHb, get_put, if_pos rfl]
    have eg : Hb.get H.next = .live (.cells [x.key, x.val, .int .i64 x.goes, .int .i64 x.put] .own) := by rw [← hHb, get_put, if_neg (by omega)]; exact ga
    have e3 : OwnRow thE Hb vo D s := (a3.upd ua (by simp)).keep (by rw [← hHb, next_put]; exact Nat.le_refl _) fun d hd => by rw [← hHb, get_put, if_neg (by have := a4 d hd; omega)]
    have e5 : Upd h Hb [] := by rw [← hHb]; exact (a5.trans ua (by simp)).put (.inr (by omega))
    have e9 : Hb.next = Ha.next := by rw [← hHb]; rfl
    have eo : ∀ k, k < H.next → k ≠ h.next + 1 → Hb.get k = H.get k := fun k hk1 hk2 => by rw [← hHb, get_put, if_neg hk2, ua.2 k hk1 (by simp)]
    clear hHb
    have ho := e3.row.one
    simp (config := { dsimp := false, maxSteps := 10000000 }) (disch := omega) only [go_sem, reduceIte, Nat.reduceEqDiff, reduceCtorEq, Nat.reduceAdd, Nat.reduceMul, Int.reduceToNat, Int.reduceLE, Int.reduceLT, Int.reduceEq, Int.reduceNe, Nat.reduceLeDiff, Int.reducePow, Nat.reducePow, Nat.reduceLT, Nat.reduceSub, Nat.reduceMod, Nat.reduceDiv, slot_neg, slot_pos, T.ag_134, T.ag_140, T.eb_140, T.ez_140, T.ii_140, T.s8_140, T.sl_140, T.st_140, T.un_140, T.zo_134, q2, e2, eg, ho.1, ho.2]
    obtain ⟨Hn, hHn⟩ : ∃ Hn, Hb.alloc (.cells [x.key, x.val, .int .i64 x.goes, .int .i64 x.put] .own) = Hn := ⟨_, rfl⟩
    rw [hHn]
    have un : Upd Hb Hn [] := by rw [← hHn]; exact Upd.alloc _ _ _
    clear hHn
    have m3 := e3.upd un (by simp)
    have n1 := un.1
    have hDk : ∀ k, k < h.next + 2 → k ∉ D := fun k hk hd => by have := a4 k hd; omega
    refine ⟨by simp [hx1], by simp [hx1], app_own (E := thE) (ns := [x]) m3 rfl (by simp [Enc.flat, thE]) rfl (by simp only [List.length_singleton]; omega) fun u3 H3 D3 hO3 hU3 hD3 => ?_⟩
    have n3 := hU3.1
    have k2' := (hU3.2 h.next (by omega) (hDk _ (by omega))).trans ((un.2 h.next (by omega) (by simp)).trans e2)
    have kB' := (hU3.2 (h.next + 1) (by omega) (hDk _ (by omega))).trans ((un.2 (h.next + 1) (by omega) (by simp)).trans eB)
    have hou := hO3.row.one
    simp (config := { dsimp := false, maxSteps := 10000000 }) (disch := omega) only [go_sem, reduceIte, Nat.reduceEqDiff, reduceCtorEq, Nat.reduceAdd, Nat.reduceMul, Int.reduceToNat, Int.reduceLE, Int.reduceLT, Int.reduceEq, Int.reduceNe, Nat.reduceLeDiff, Int.reducePow, Nat.reducePow, Nat.reduceLT, Nat.reduceSub, Nat.reduceMod, Nat.reduceDiv, slot_neg, slot_pos, T.ag_134, T.ag_140, T.eb_140, T.ez_140, T.ii_140, T.s8_140, T.sl_140, T.st_140, T.un_140, T.zo_134, q2, k2', hou.1, hou.2]
    have hD4 : ∀ d ∈ D3, h.next + 2 ≤ d := fun d hd => by
      rcases hD3 d hd with h1 | h1
      · exact a4 d h1
      · omega
    refine ⟨kB', D3, ⟨by omega, u3, rfl, ?_, hD4, ((e5.trans un (by simp)).trans hU3 fun d hd => .inr (by have := a4 d hd; omega)).put (.inr (by omega))⟩, fun d hd => ?_, by omega, fun k hk1 hk2 hk3 => ?_⟩
    · exact hO3.keep (by rw [next_put]; exact Nat.le_refl _) fun d hd => by rw [get_put, if_neg (by have := hD4 d hd; omega)]
    · rcases hD3 d hd with h1 | h1
      · exact .inl h1
      · exact .inr (by omega)
    · rw [if_neg (by omega), hU3.2 k (by omega) hk3, un.2 k (by omega) (by simp), eo k hk1 (by omega)]
theorem CollectS_ph (h : Heap) (b id : Nat) (l : List Th) (cl : Nat) (hb : l.Pairwise fun a b => a.born < b.born) (hcl : ∀ x ∈ l, x.born < cl) (hll : l.length ≤ 10000) (o : Own) (gb : h.get b = .live (.cells [.map (some id)] o)) (gm : h.get id = .live (.map (ents l) cl .own)) (hbn : b < h.next) (hidn : id < h.next) :
    @CallsH Try.prog 62 #[.func (.func 88) #[] #[.pointer (some ⟨b, 0, none⟩)]] h ⟨fun u H => ∃ s D, s.Perm l ∧ OwnRow thE H u D s ∧ (∀ d ∈ D, h.next ≤ d) ∧ Upd h H []⟩ := by
  (refine calls_of_vc [] hm Try.func62 rfl (ts := [2]) rfl (by kernel_rfl) (by simp) ?_; simp (config := { dsimp := false, maxSteps := 10000000 }) (disch := omega) only [go_sem, reduceIte, Nat.reduceEqDiff, reduceCtorEq, Nat.reduceAdd, Nat.reduceMul, Int.reduceToNat, Int.reduceLE, Int.reduceLT, Int.reduceEq, Int.reduceNe, Nat.reduceLeDiff, Int.reducePow, Nat.reducePow, Nat.reduceLT, Nat.reduceSub, Nat.reduceMod, Nat.reduceDiv, slot_neg, slot_pos, T.gf_87, init_a])
  refine (AppendS_ph h b id l cl hb hcl hll o gb gm hbn hidn).mono fun u H ⟨s, D, h1, h2, h3, h4⟩ => ?_
  simp (config := { dsimp := false, maxSteps := 10000000 }) (disch := omega) only [go_sem, reduceIte, Nat.reduceEqDiff, reduceCtorEq, Nat.reduceAdd, Nat.reduceMul, Int.reduceToNat, Int.reduceLE, Int.reduceLT, Int.reduceEq, Int.reduceNe, Nat.reduceLeDiff, Int.reducePow, Nat.reducePow, Nat.reduceLT, Nat.reduceSub, Nat.reduceMod, Nat.reduceDiv, slot_neg, slot_pos, T.gf_87]
  exact ⟨s, D, h1, h2, h3, h4⟩
/-- cache.order -/
theorem orderS_ph (h : Heap) (x y : Th) : @CallsH Try.prog 64 #[x.agg, y.agg] h.ro ⟨fun u _ => u = .int .i64 (ordS x y)⟩ := by
  have hxc : x.agg.cells = #[x.key, x.val, .int .i64 x.goes, .int .i64 x.put] := cells_agg
  have hyc : y.agg.cells = #[y.key, y.val, .int .i64 y.goes, .int .i64 y.put] := cells_agg
  have hx1 := x.one
  have hy1 := y.one
  (refine calls_of_vc [] hm Try.func64 rfl (ts := [4]) rfl (by kernel_rfl) (by simp) ?_; simp (config := { dsimp := false, maxSteps := 10000000 }) (disch := omega) only [go_sem, reduceIte, Nat.reduceEqDiff, reduceCtorEq, Nat.reduceAdd, Nat.reduceMul, Int.reduceToNat, Int.reduceLE, Int.reduceLT, Int.reduceEq, Int.reduceNe, Nat.reduceLeDiff, Int.reducePow, Nat.reducePow, Nat.reduceLT, Nat.reduceSub, Nat.reduceMod, Nat.reduceDiv, slot_neg, slot_pos, T.ag_3, T.eb_22, T.ez_22, T.fo_134_2, T.fo_134_3, T.gf_73, T.gf_74, init_a, hxc, hyc, hx1.1, hx1.2, hy1.1, hy1.2])
  refine draw_plan [] (.takeS 0 (.takeS 1 (.takeS 2 (.takeS 3 (.take 5 (.take 6 (.take 7 (.take 8 (.alt 4 (.alt 9 (.alt 10 (.alt 11 (.takeS 12 .done) .stop) .stop) .stop) .stop))))))))) hm (by kernel_rfl) (by kernel_rfl) ?_
  simp (config := { dsimp := false, maxSteps := 10000000 }) (disch := omega) only [go_sem, reduceIte, Nat.reduceEqDiff, reduceCtorEq, Nat.reduceAdd, Nat.reduceMul, Int.reduceToNat, Int.reduceLE, Int.reduceLT, Int.reduceEq, Int.reduceNe, Nat.reduceLeDiff, Int.reducePow, Nat.reducePow, Nat.reduceLT, Nat.reduceSub, Nat.reduceMod, Nat.reduceDiv, slot_neg, slot_pos, T.ag_3, T.eb_22, T.ez_22, T.fo_134_2, T.fo_134_3, T.gf_73, T.gf_74, hxc, hyc, hx1.1, hx1.2, hy1.1, hy1.2]
  refine ⟨by omega, CallsH.pure _ rfl (Compare_ph _ _ _) ?_⟩
  simp (config := { dsimp := false, maxSteps := 10000000 }) (disch := omega) only [go_sem, reduceIte, Nat.reduceEqDiff, reduceCtorEq, Nat.reduceAdd, Nat.reduceMul, Int.reduceToNat, Int.reduceLE, Int.reduceLT, Int.reduceEq, Int.reduceNe, Nat.reduceLeDiff, Int.reducePow, Nat.reducePow, Nat.reduceLT, Nat.reduceSub, Nat.reduceMod, Nat.reduceDiv, slot_neg, slot_pos, T.ag_3, T.eb_22, T.ez_22, T.fo_134_2, T.fo_134_3, T.gf_73, T.gf_74]
  refine CallsH.pure _ rfl (Compare_ph _ _ _) ?_
  simp (config := { dsimp := false, maxSteps := 10000000 }) (disch := omega) only [go_sem, reduceIte, Nat.reduceEqDiff, reduceCtorEq, Nat.reduceAdd, Nat.reduceMul, Int.reduceToNat, Int.reduceLE, Int.reduceLT, Int.reduceEq, Int.reduceNe, Nat.reduceLeDiff, Int.reducePow, Nat.reducePow, Nat.reduceLT, Nat.reduceSub, Nat.reduceMod, Nat.reduceDiv, slot_neg, slot_pos, T.ag_3, T.eb_22, T.ez_22, T.fo_134_2, T.fo_134_3, T.gf_73, T.gf_74]
  refine CallsH.pure _ rfl (Or_ph _ _ _ (cmpS x.goes y.goes) (cmpS x.put y.put) ((get_ro ..).trans ((congrArg Slot.lock ((get_alloc ..).trans (if_pos rfl))).trans rfl))) ?_
  simp (config := { dsimp := false, maxSteps := 10000000 }) (disch := omega) only [go_sem, reduceIte, Nat.reduceEqDiff, reduceCtorEq, Nat.reduceAdd, Nat.reduceMul, Int.reduceToNat, Int.reduceLE, Int.reduceLT, Int.reduceEq, Int.reduceNe, Nat.reduceLeDiff, Int.reducePow, Nat.reducePow, Nat.reduceLT, Nat.reduceSub, Nat.reduceMod, Nat.reduceDiv, slot_neg, slot_pos, T.ag_3, T.eb_22, T.ez_22, T.fo_134_2, T.fo_134_3, T.gf_73, T.gf_74]
  rfl
/-- slices.MinFunc by it -/
theorem MinS_ph (h : Heap) (v : Value) (l : List Th) (hr : RowIn thE h v l) (hlt : ∀ A n st, v = .slice (some A) n st → A.block < h.next) (hl0 : 0 < l.length) (hl : l.length < 9223372036854775807) :
    @CallsH Try.prog 61 #[v, .func (.func 64) #[] #[]] h ⟨fun u H => Upd h H [] ∧ ∃ x ∈ l, u = x.agg ∧ ∀ y ∈ l, leT x y⟩ := by
  obtain ⟨A, st, hv⟩ := hr.form
  have c0 : ((l.length : Int) < 1) = False := eq_false (by omega)
  have w0 : l[0]? = some l[0] := List.getElem?_eq_getElem _
  rcases hr with ⟨_, hnil⟩ | ⟨q, off, vs, o, hv', hq, hR⟩
  · rw [hnil] at hl0; simp at hl0
  have hqn : q < h.next := hlt _ _ _ hv'
  have ha := hR.at w0
  have h1' : List.take 4 (List.drop off vs) = thE.enc l[0] := by have := ha.1; simpa [thE] using this
  have h2' : off + 4 ≤ vs.length := by have := ha.2; simpa [thE] using this
  have hK : thE.k = 4 := rfl
  have n1 : (q = h.next) = False := eq_false (by omega)
  have n2 : (q = h.next + 1) = False := eq_false (by omega)
  rw [hv']
  generalize l[0] = x0 at *
  have hx1 := x0.one
  have hKe : thE.enc x0 = [x0.key, x0.val, .int .i64 x0.goes, .int .i64 x0.put] := rfl
  (refine calls_of_vcR (rs := [.cell 4 134]) [] hm Try.func61 rfl rfl (by kernel_rfl) (by simp) ?_; simp (config := { dsimp := false, maxSteps := 10000000 }) (disch := omega) only [go_sem, reduceIte, Nat.reduceEqDiff, reduceCtorEq, Nat.reduceAdd, Nat.reduceMul, Int.reduceToNat, Int.reduceLE, Int.reduceLT, Int.reduceEq, Int.reduceNe, Nat.reduceLeDiff, Int.reducePow, Nat.reducePow, Nat.reduceLT, Nat.reduceSub, Nat.reduceMod, Nat.reduceDiv, slot_neg, slot_pos, T.ag_134, T.es_140, T.ib_3, T.ii_140, T.ip_3, T.s8_140, T.sl_140, T.st_140, T.un_140, T.zo_134, init_a, c0, hq, hK, h1', hKe, n1, n2, hx1.1, hx1.2])
  have hx0 : x0 ∈ l := List.mem_of_getElem? w0
  obtain ⟨H0, hH0⟩ : ∃ H0, H0 = (h.alloc (.cells [.string (str []), .int .i64 0, .int .i64 0, .int .i64 0] .own)) := ⟨_, rfl⟩
  refine ⟨by omega, h2', loop_intro [] hm (fun r H => ∃ i x, i ≤ l.length ∧ x ∈ l ∧ (∀ j y, j < i → l[j]? = some y → leT x y) ∧ r 0 = .slice (some ⟨q, off, none⟩) l.length 4 ∧ r 1 = .func (.func 64) #[] #[] ∧ r 4 = .pointer (some ⟨h.next, 0, none⟩) ∧ r 5 = .pointer (some ⟨h.next + 1, 0, none⟩) ∧ r 6 = .int .i64 (i : Nat) ∧
    H.get (h.next + 1) = .live (.cells [x.key, x.val, .int .i64 x.goes, .int .i64 x.put] .own) ∧ Upd h H [] ∧ H.next = h.next + 2 ∧ H.get h.next = .live (.cells [.string (str []), .int .i64 0, .int .i64 0, .int .i64 0] .own)) (fun r _ => match r 6 with | .int _ i => l.length - i.toNat | _ => 0) ?_ ?_⟩
  · refine ⟨1, x0, by omega, hx0, fun j y hj hy => ?_, by simp [upd, initR], by simp [upd, initR], by simp [upd], by simp [upd], by simp [upd], by simp (config := { dsimp := false }) (disch := omega) only [get_alloc, get_put, get_app, next_alloc, next_put, next_app, get_mask, get_unmask, next_mask, next_unmask, List.mem_cons, List.not_mem_nil, or_false, true_or, or_true, false_or, and_true, true_and, and_false, false_and, not_true_eq_false, not_false_eq_true, ne_eq, reduceIte, slot_neg, slot_pos], ?_, rfl, by simp (config := { dsimp := false }) (disch := omega) only [get_alloc, get_put, get_app, next_alloc, next_put, next_app, get_mask, get_unmask, next_mask, next_unmask, List.mem_cons, List.not_mem_nil, or_false, true_or, or_true, false_or, and_true, true_and, and_false, false_and, not_true_eq_false, not_false_eq_true, ne_eq, reduceIte, slot_neg, slot_pos]⟩
    · obtain rfl : j = 0 := by omega
      rw [w0] at hy; cases hy
      exact .inr ⟨rfl, Int.le_refl _⟩
    · exact ((Upd.alloc _ _ _).allocs).put (.inr (Nat.le_succ _))
  · rintro r H ⟨i, x, hi, hx, hle, q0, q1, q4, q5, q6, g5, hu, hn, g4⟩
    have hx1 := x.one
    have gq := (hu.2 q hqn (by simp)).trans hq
    have m1 : (q = h.next + 1) = False := eq_false (by omega)
    by_cases hil : i < l.length
    · have c1 : ((i : Int) < (l.length : Int)) = True := eq_true (by omega)
      have w1 : IntKind.i64.wrap ((i : Int) + 1) = ((i + 1 : Nat) : Int) := by rw [i64wrap] <;> omega
      have hyi : l[i]? = some l[i] := List.getElem?_eq_getElem hil
      have hym : l[i] ∈ l := List.getElem_mem _
      have hb1 := hR.at hyi
      rw [hK] at hb1
      generalize l[i] = y at *
      have hy1 := y.one
      have hye : thE.enc y = [y.key, y.val, .int .i64 y.goes, .int .i64 y.put] := rfl
      simp (config := { dsimp := false, maxSteps := 10000000 }) (disch := omega) only [go_sem, reduceIte, Nat.reduceEqDiff, reduceCtorEq, Nat.reduceAdd, Nat.reduceMul, Int.reduceToNat, Int.reduceLE, Int.reduceLT, Int.reduceEq, Int.reduceNe, Nat.reduceLeDiff, Int.reducePow, Nat.reducePow, Nat.reduceLT, Nat.reduceSub, Nat.reduceMod, Nat.reduceDiv, slot_neg, slot_pos, T.ag_134, T.es_140, T.ib_3, T.ii_140, T.ip_3, T.s8_140, T.sl_140, T.st_140, T.un_140, T.zo_134, q0, q1, q4, q5, q6, c1, gq, g5, hb1.1, hye, m1]
      refine ⟨hb1.2, by kernel_rfl, ?_⟩
      refine ⟨_, rfl, orderS_ph H y x, ?_⟩
      have hol := ord_lt x y
      by_cases hlt : leT x y
      · have c2 : (ordS y x < 0) = False := by rw [hol]; simp [hlt]
        simp (config := { dsimp := false, maxSteps := 10000000 }) (disch := omega) only [go_sem, reduceIte, Nat.reduceEqDiff, reduceCtorEq, Nat.reduceAdd, Nat.reduceMul, Int.reduceToNat, Int.reduceLE, Int.reduceLT, Int.reduceEq, Int.reduceNe, Nat.reduceLeDiff, Int.reducePow, Nat.reducePow, Nat.reduceLT, Nat.reduceSub, Nat.reduceMod, Nat.reduceDiv, slot_neg, slot_pos, T.ag_134, T.es_140, T.ib_3, T.ii_140, T.ip_3, T.s8_140, T.sl_140, T.st_140, T.un_140, T.zo_134, q0, q1, q4, q5, q6, c2]
        rw [w1]
        refine ⟨⟨i + 1, x, hil, hx, fun j z hj hz => ?_, rfl, g5, hu, hn, g4⟩, by omega⟩
        rcases Nat.lt_or_ge j i with h1 | h1
        · exact hle j z h1 hz
        · obtain rfl : j = i := by omega
          rw [hyi] at hz; cases hz; exact hlt
      · have c2 : (ordS y x < 0) = True := by rw [hol]; simp [hlt]
        simp (config := { dsimp := false, maxSteps := 10000000 }) (disch := omega) only [go_sem, reduceIte, Nat.reduceEqDiff, reduceCtorEq, Nat.reduceAdd, Nat.reduceMul, Int.reduceToNat, Int.reduceLE, Int.reduceLT, Int.reduceEq, Int.reduceNe, Nat.reduceLeDiff, Int.reducePow, Nat.reducePow, Nat.reduceLT, Nat.reduceSub, Nat.reduceMod, Nat.reduceDiv, slot_neg, slot_pos, T.ag_134, T.es_140, T.ib_3, T.ii_140, T.ip_3, T.s8_140, T.sl_140, T.st_140, T.un_140, T.zo_134, q0, q1, q4, q5, q6, c2, gq, g5, hb1.1, hye, m1, hy1.1, hy1.2]
        rw [w1]
        refine ⟨by omega, hb1.2, ⟨i + 1, y, hil, hym, fun j z hj hz => ?_, rfl, rfl, hu.put (.inr (by omega)), hn, g4⟩, by omega⟩
        rcases Nat.lt_or_ge j i with h1 | h1
        · have h2 := hle j z h1 hz
          unfold leT at *; omega
        · obtain rfl : j = i := by omega
          rw [hyi] at hz; cases hz; exact .inr ⟨rfl, Int.le_refl _⟩
    · obtain rfl : i = l.length := by omega
      have c1 : ((l.length : Int) < (l.length : Int)) = False := eq_false (by omega)
      simp (config := { dsimp := false, maxSteps := 10000000 }) (disch := omega) only [go_sem, reduceIte, Nat.reduceEqDiff, reduceCtorEq, Nat.reduceAdd, Nat.reduceMul, Int.reduceToNat, Int.reduceLE, Int.reduceLT, Int.reduceEq, Int.reduceNe, Nat.reduceLeDiff, Int.reducePow, Nat.reducePow, Nat.reduceLT, Nat.reduceSub, Nat.reduceMod, Nat.reduceDiv, slot_neg, slot_pos, T.ag_134, T.es_140, T.ib_3, T.ii_140, T.ip_3, T.s8_140, T.sl_140, T.st_140, T.un_140, T.zo_134, q0, q1, q4, q5, q6, c1, g5, g4, hx1.1, hx1.2]
      exact ⟨hu.put (.inr (Nat.le_refl _)), x, hx, rfl, fun y hy => by
        obtain ⟨j, hj⟩ := List.getElem?_of_mem hy
        exact hle j y (List.getElem?_eq_some_iff.1 hj).1 hj⟩

/-- maps.Values: what it goes over -/
theorem ValuesIN (b id : Nat) (l : List Th) (cl : Nat) (hb : l.Pairwise fun a b => a.born < b.born) (hcl : ∀ x ∈ l, x.born < cl) :
    SeqN Try.prog 72 #[.pointer (some ⟨b, 0, none⟩)] (fun x : Th => #[x.agg]) (fun s x => x ∈ l ∧ x ∉ s ∧ s.Nodup ∧ ∀ y ∈ s, y ∈ l) (fun s => s.Perm l) (fun H => ∃ o, H.get b = .live (.cells [.map (some id)] o) ∧ H.get id = .live (.map (ents l) cl .own) ∧ id < H.next) := by
  intro yid J Jx h h0 hreq hst hJD hY
  obtain ⟨o, gb, gm, hidn⟩ := hreq _ _ _ h0
  have nid : (id = h.next) = False := eq_false (by omega)
  (refine calls_of_vc [] hm Try.func72 rfl (ts := []) rfl (by kernel_rfl) (by simp) ?_; simp (config := { dsimp := false, maxSteps := 10000000 }) (disch := omega) only [go_sem, reduceIte, Nat.reduceEqDiff, reduceCtorEq, Nat.reduceAdd, Nat.reduceMul, Int.reduceToNat, Int.reduceLE, Int.reduceLT, Int.reduceEq, Int.reduceNe, Nat.reduceLeDiff, Int.reducePow, Nat.reducePow, Nat.reduceLT, Nat.reduceSub, Nat.reduceMod, Nat.reduceDiv, slot_neg, slot_pos, T.ag_88, T.ag_93, T.ii_3, T.mt_88, T.s8_3, T.sl_3, T.st_3, T.un_3, T.zo_93, T.zv_93, init_a, gb, gm])
  refine loop_intro [] hm (fun r H => ∃ s D, s.Nodup ∧ (∀ x ∈ s, x ∈ l) ∧ J s D H ∧ (∀ d ∈ D, h.next < d) ∧ H.get h.next = .live (.iter (some id) cl (s.map (·.born)).toArray cl .own) ∧ h.next < H.next ∧ r 0 = .func (.yield yid) #[] #[] ∧ r 6 = .pointer (some ⟨h.next, 0, none⟩)) (fun _ H => match H.get h.next with | .live (.iter _ _ seen _ _) => (l.filter fun x => !seen.contains x.born).length | _ => 0) ?_ ?_
  · exact ⟨[], [], List.nodup_nil, by simp, hst _ _ _ _ h0 (Nat.le_succ _) fun k hk _ => by rw [get_alloc, if_neg (by omega)], by simp, by rw [get_alloc, if_pos rfl]; rfl, Nat.lt_succ_self _, by simp [upd, initR], by simp [upd]⟩
  · rintro r H ⟨s, D, hsn, hsl, hJ, hDn, hit, hnx, q0, q6⟩
    obtain ⟨o, gb, gm, _⟩ := hreq _ _ _ hJ
    simp (config := { dsimp := false, maxSteps := 10000000 }) (disch := omega) only [go_sem, reduceIte, Nat.reduceEqDiff, reduceCtorEq, Nat.reduceAdd, Nat.reduceMul, Int.reduceToNat, Int.reduceLE, Int.reduceLT, Int.reduceEq, Int.reduceNe, Nat.reduceLeDiff, Int.reducePow, Nat.reducePow, Nat.reduceLT, Nat.reduceSub, Nat.reduceMod, Nat.reduceDiv, slot_neg, slot_pos, T.ag_88, T.ag_93, T.ii_3, T.mt_88, T.s8_3, T.sl_3, T.st_3, T.un_3, T.zo_93, T.zv_93, q0, q6, hit, gm, nid]
    have hcon : ∀ x ∈ l, (s.map (·.born)).toArray.contains x.born = true ↔ x ∈ s := fun x hx => by
      rw [List.contains_toArray, List.contains_iff_mem, List.mem_map]
      exact ⟨fun ⟨y, hy, e⟩ => born_inj hb (hsl y hy) hx e ▸ hy, fun h => ⟨x, h, rfl⟩⟩
    refine ⟨fun e he => ?_, fun hall => ?_, fun e he hns => ?_⟩
    · obtain ⟨x, hx, rfl⟩ := List.mem_map.1 he
      exact hcl x hx
    · refine .inl ⟨s, D, ?_, hJ, by omega⟩
      refine (List.perm_ext_iff_of_nodup hsn (hb.imp fun h e => by subst e; omega)).2 fun x => ⟨hsl x, fun hx => (hcon x hx).1 ?_⟩
      simpa using hall _ (List.mem_map.2 ⟨x, hx, rfl⟩)
    · obtain ⟨x, hx, rfl⟩ := List.mem_map.1 he
      have hfb := find_born hb hx
      have hbk : ((s.map (·.born)).toArray.push x.born).back? = some x.born := Array.back?_push ..
      have hxs : x ∉ s := fun h9 => by
        have h8 := (hcon x hx).2 h9
        have h7 : (s.map (·.born)).toArray.contains x.born = false := by simpa using hns
        rw [h8] at h7; cases h7
      have hpush : (s.map (·.born)).toArray.push x.born = ((s ++ [x]).map (·.born)).toArray := by simp
      rw [hpush] at hbk ⊢
      try dsimp only at hbk ⊢
      have hxc : x.agg.cells = #[x.key, x.val, .int .i64 x.goes, .int .i64 x.put] := cells_agg
      have hx1 := x.one
      simp (config := { dsimp := false, maxSteps := 10000000 }) (disch := omega) only [go_sem, reduceIte, Nat.reduceEqDiff, reduceCtorEq, Nat.reduceAdd, Nat.reduceMul, Int.reduceToNat, Int.reduceLE, Int.reduceLT, Int.reduceEq, Int.reduceNe, Nat.reduceLeDiff, Int.reducePow, Nat.reducePow, Nat.reduceLT, Nat.reduceSub, Nat.reduceMod, Nat.reduceDiv, slot_neg, slot_pos, T.ag_88, T.ag_93, T.ii_3, T.mt_88, T.s8_3, T.sl_3, T.st_3, T.un_3, T.zo_93, T.zv_93, hbk, hfb, gm, nid, q0, q6, hxc, hx1.1, hx1.2]
      obtain ⟨Hc, hHc⟩ : ∃ Hc, ((H.put h.next (.live (.iter (some id) cl ((s ++ [x]).map (·.born)).toArray cl .own))).alloc (.cells [.int .i64 0, .int .i64 0, .int .i64 0, .int .i64 0] .own)).put H.next (.live (.cells [x.key, x.val, .int .i64 x.goes, .int .i64 x.put] .own)) = Hc := ⟨_, rfl⟩
      rw [hHc]
      have uc : Upd H Hc [h.next] := by rw [← hHc]; exact (((Upd.refl H [h.next]).put (.inl (by simp))).allocs).put (.inr (Nat.le_refl _))
      have hitc : Hc.get h.next = .live (.iter (some id) cl ((s ++ [x]).map (·.born)).toArray cl .own) := by rw [← hHc, get_put, if_neg (by omega), get_alloc, if_neg (by rw [next_put]; omega), get_put, if_pos rfl]
      have hnc : H.next < Hc.next := by rw [← hHc]; exact Nat.lt_succ_self _
      clear hHc
      have hJc : J s D Hc := hst _ _ _ _ hJ (by omega) fun k hk hc => uc.2 k hk (by
        simp only [List.mem_singleton]
        rcases hc with h1 | h1
        · omega
        · have := hDn k h1; omega)
      refine (hY s x D Hc ⟨hx, hxs, hsn, hsl⟩ hJc (by omega)).mono fun u H' hu => ?_
      rcases hu with ⟨rfl, D', hJ', hD', hn', hk'⟩ | ⟨rfl, hX⟩
      · simp (config := { dsimp := false, maxSteps := 10000000 }) (disch := omega) only [go_sem, reduceIte, Nat.reduceEqDiff, reduceCtorEq, Nat.reduceAdd, Nat.reduceMul, Int.reduceToNat, Int.reduceLE, Int.reduceLT, Int.reduceEq, Int.reduceNe, Nat.reduceLeDiff, Int.reducePow, Nat.reducePow, Nat.reduceLT, Nat.reduceSub, Nat.reduceMod, Nat.reduceDiv, slot_neg, slot_pos, T.ag_88, T.ag_93, T.ii_3, T.mt_88, T.s8_3, T.sl_3, T.st_3, T.un_3, T.zo_93, T.zv_93, q0, q6]
        have hit' := (hk' h.next (by omega) (Nat.le_refl _) (fun hd => by have := hDn _ hd; omega)).trans hitc
        refine ⟨⟨s ++ [x], D', ?_, fun y hy => ?_, hJ', fun d hd => ?_, hit', by omega⟩, ?_⟩
        · rw [List.nodup_append]
          exact ⟨hsn, by simp, fun a ha b hb => by simp at hb; subst hb; exact fun e => hxs (e ▸ ha)⟩
        · rcases List.mem_append.1 hy with h1 | h1
          · exact hsl y h1
          · simp at h1; exact h1 ▸ hx
        · rcases hD' d hd with h1 | h1
          · exact hDn d h1
          · omega
        · rw [hit', hit]
          dsimp only
          have e0 : (l.filter fun y => !((s ++ [x]).map (·.born)).toArray.contains y.born) = (l.filter fun y => !(s.map (·.born)).toArray.contains y.born).filter fun y => !(y.born == x.born) := by
            rw [List.filter_filter]
            refine List.filter_congr fun y hy => ?_
            rw [← hpush, Array.contains_push]
            cases h1 : (s.map (·.born)).toArray.contains y.born <;> cases h2 : y.born == x.born <;> simp_all
          rw [e0]
          refine List.length_filter_lt_length_iff_exists.2 ⟨x, List.mem_filter.2 ⟨hx, ?_⟩, by simp⟩
          cases h1 : (s.map (·.born)).toArray.contains x.born with
          | false => rfl
          | true => exact absurd ((hcon x hx).1 h1) hxs
      · simp (config := { dsimp := false, maxSteps := 10000000 }) (disch := omega) only [go_sem, reduceIte, Nat.reduceEqDiff, reduceCtorEq, Nat.reduceAdd, Nat.reduceMul, Int.reduceToNat, Int.reduceLE, Int.reduceLT, Int.reduceEq, Int.reduceNe, Nat.reduceLeDiff, Int.reducePow, Nat.reducePow, Nat.reduceLT, Nat.reduceSub, Nat.reduceMod, Nat.reduceDiv, slot_neg, slot_pos, T.ag_88, T.ag_93, T.ii_3, T.mt_88, T.s8_3, T.sl_3, T.st_3, T.un_3, T.zo_93, T.zv_93, q0, q6]
        exact .inr hX
theorem ValuesI_ph (h : Heap) (id : Nat) : @CallsH Try.prog 43 #[.map (some id)] h ⟨fun u H => u = .func (.func 72) #[] #[.pointer (some ⟨h.next, 0, none⟩)] ∧ H = h.alloc (.cells [.map (some id)] .own)⟩ := by
  (refine calls_of_vc [] hm Try.func43 rfl (ts := [2]) rfl (by kernel_rfl) (by simp) ?_; simp (config := { dsimp := false }) only [go_sem, reduceIte, Nat.reduceEqDiff, reduceCtorEq, Nat.reduceAdd, Nat.reduceMul, Int.reduceToNat, Int.reduceLE, Int.reduceLT, Int.reduceEq, Int.reduceNe, Nat.reduceLeDiff, Int.reducePow, Nat.reducePow, Nat.reduceLT, Nat.reduceSub, Nat.reduceMod, Nat.reduceDiv, init_a])
/-- slices.AppendSeq to nothing of all that is in a map -/
theorem AppendI_ph (h : Heap) (b id : Nat) (l : List Th) (cl : Nat) (hb : l.Pairwise fun a b => a.born < b.born) (hcl : ∀ x ∈ l, x.born < cl) (hll : l.length ≤ 10000) (o : Own) (gb : h.get b = .live (.cells [.map (some id)] o)) (gm : h.get id = .live (.map (ents l) cl .own)) (hbn : b < h.next) (hidn : id < h.next) :
    @CallsH Try.prog 71 #[.slice none 0 0, .func (.func 72) #[] #[.pointer (some ⟨b, 0, none⟩)]] h ⟨fun u H => ∃ s D, s.Perm l ∧ OwnRow thE H u D s ∧ (∀ d ∈ D, h.next ≤ d) ∧ Upd h H []⟩ := by
  (refine calls_of_codeR (rs := [.tmp 4]) Try.func71 rfl rfl (by simp) ?_)
  (refine CodeH.seq' (CodeH.of_vc [] hm (by kernel_rfl) ?_); simp (config := { dsimp := false, maxSteps := 10000000 }) (disch := omega) only [go_sem, reduceIte, Nat.reduceEqDiff, reduceCtorEq, Nat.reduceAdd, Nat.reduceMul, Int.reduceToNat, Int.reduceLE, Int.reduceLT, Int.reduceEq, Int.reduceNe, Nat.reduceLeDiff, Int.reducePow, Nat.reducePow, Nat.reduceLT, Nat.reduceSub, Nat.reduceMod, Nat.reduceDiv, slot_neg, slot_pos, T.ag_93, T.ag_95, T.eb_95, T.ez_95, T.ii_95, T.s8_95, T.sl_95, T.st_95, T.un_95, T.zo_93, init_a])
  (refine CodeH.seq' (CodeH.of_vc [] hm (by kernel_rfl) ?_); simp (config := { dsimp := false, maxSteps := 10000000 }) (disch := omega) only [go_sem, reduceIte, Nat.reduceEqDiff, reduceCtorEq, Nat.reduceAdd, Nat.reduceMul, Int.reduceToNat, Int.reduceLE, Int.reduceLT, Int.reduceEq, Int.reduceNe, Nat.reduceLeDiff, Int.reducePow, Nat.reducePow, Nat.reduceLT, Nat.reduceSub, Nat.reduceMod, Nat.reduceDiv, slot_neg, slot_pos, T.ag_93, T.ag_95, T.eb_95, T.ez_95, T.ii_95, T.s8_95, T.sl_95, T.st_95, T.un_95, T.zo_93, init_a])
  have g0 : (h.alloc (.cells [.slice none 0 0] .own)).get h.next = .live (.cells [.slice none 0 0] .own) := by rw [get_alloc, if_pos rfl]
  have hU1 : Upd h (h.alloc (.cells [.slice none 0 0] .own)) [] := Upd.alloc _ _ _
  have hn1 : (h.alloc (.cells [.slice none 0 0] .own)).next = h.next + 1 := rfl
  revert g0 hU1 hn1
  generalize h.alloc (.cells [.slice none 0 0] .own) = H1
  intro g0 hU1 hn1
  refine RF.gen (fun r => r 2 = .pointer (some ⟨h.next, 0, none⟩) ∧ r 6 = .func (.func 72) #[] #[.pointer (some ⟨b, 0, none⟩)]) ⟨by simp [upd], by simp [upd, initR]⟩ fun r ⟨q2, q6⟩ => ?_
  refine range_overN q6 (by kernel_rfl) (ValuesIN b id l cl hb hcl) (fun x => rfl) (fun s D H => h.next + 2 ≤ H.next ∧ ∃ vo, H.get h.next = .live (.cells [vo] .own) ∧ OwnRow thE H vo D s ∧ (∀ d ∈ D, h.next + 2 ≤ d) ∧ Upd h H []) ?_ ?_ ?_ ?_ ?_ ?_
  · intro H hu1 hn2
    exact ⟨by omega, _, (hu1.2 _ (by omega) (by simp)).trans g0, OwnRow.nil _, by simp, hU1.trans hu1 (by simp)⟩
  · rintro s D H ⟨_, _, _, _, _, hu⟩
    exact ⟨o, (hu.2 b hbn (by simp)).trans gb, (hu.2 id hidn (by simp)).trans gm, by omega⟩
  · rintro s D H H' ⟨a1, vo, a2, a3, a4, a5⟩ hn hk
    exact ⟨by omega, vo, (hk _ (by omega) (.inl (by omega))).trans a2, a3.keep hn fun d hd => hk d (a3.lt d hd) (.inr hd), a4, ⟨by have := a5.1; omega, fun k hk1 hk2 => (hk k (by omega) (.inl (by omega))).trans (a5.2 k hk1 hk2)⟩⟩
  · rintro s D H ⟨a1, vo, a2, a3, a4, a5⟩ d hd
    have := a4 d hd
    have := a3.lt d hd
    omega
  · rintro s D H x hfin ⟨a1, vo, a2, a3, a4, a5⟩ hlt
    rw [hn1]
    obtain ⟨Hx, hHx⟩ : ∃ Hx, H.put (h.next + 1) x = Hx := ⟨_, rfl⟩
    rw [hHx]
    have e2 : Hx.get h.next = .live (.cells [vo] .own) := by rw [← hHx, get_put, if_neg (by omega)]; exact a2
    have e3 : OwnRow thE Hx vo D s := a3.keep (by rw [← hHx, next_put]; exact Nat.le_refl _) fun d hd => by rw [← hHx, get_put, if_neg (by have := a4 d hd; omega)]
    have e8 : Upd h Hx [] := by rw [← hHx]; exact a5.put (.inr (by omega))
    clear hHx
    have ho := e3.row.one
    simp (config := { dsimp := false, maxSteps := 10000000 }) (disch := omega) only [go_sem, reduceIte, Nat.reduceEqDiff, reduceCtorEq, Nat.reduceAdd, Nat.reduceMul, Int.reduceToNat, Int.reduceLE, Int.reduceLT, Int.reduceEq, Int.reduceNe, Nat.reduceLeDiff, Int.reducePow, Nat.reducePow, Nat.reduceLT, Nat.reduceSub, Nat.reduceMod, Nat.reduceDiv, slot_neg, slot_pos, T.ag_93, T.ag_95, T.eb_95, T.ez_95, T.ii_95, T.s8_95, T.sl_95, T.st_95, T.un_95, T.zo_93]
    (refine CodeH.of_vc [] hm (by kernel_rfl) ?_; simp (config := { dsimp := false, maxSteps := 10000000 }) (disch := omega) only [go_sem, reduceIte, Nat.reduceEqDiff, reduceCtorEq, Nat.reduceAdd, Nat.reduceMul, Int.reduceToNat, Int.reduceLE, Int.reduceLT, Int.reduceEq, Int.reduceNe, Nat.reduceLeDiff, Int.reducePow, Nat.reducePow, Nat.reduceLT, Nat.reduceSub, Nat.reduceMod, Nat.reduceDiv, slot_neg, slot_pos, T.ag_93, T.ag_95, T.eb_95, T.ez_95, T.ii_95, T.s8_95, T.sl_95, T.st_95, T.un_95, T.zo_93, init_a, q2, e2, ho.1, ho.2])
    exact ⟨s, D, hfin, e3, fun d hd => by have := a4 d hd; omega, e8⟩
  · rintro n s x D H B k1 k2 ⟨hx, hxs, hsn, hsl⟩ ⟨a1, vo, a2, a3, a4, a5⟩ hB hlt2
    have hsl2 := nodup_len hsn hsl
    rw [show ∀ a : Value, setP r (#[7] : Array Nat).toList (#[a] : Array Value).toList = upd r (some 7) a from fun _ => rfl]
    refine CodeH.of_vc [] hm k1 ?_
    have hxc : x.agg.cells = #[x.key, x.val, .int .i64 x.goes, .int .i64 x.put] := cells_agg
    have hx1 := x.one
    simp (config := { dsimp := false, maxSteps := 10000000 }) (disch := omega) only [go_sem, reduceIte, Nat.reduceEqDiff, reduceCtorEq, Nat.reduceAdd, Nat.reduceMul, Int.reduceToNat, Int.reduceLE, Int.reduceLT, Int.reduceEq, Int.reduceNe, Nat.reduceLeDiff, Int.reducePow, Nat.reducePow, Nat.reduceLT, Nat.reduceSub, Nat.reduceMod, Nat.reduceDiv, slot_neg, slot_pos, T.ag_93, T.ag_95, T.eb_95, T.ez_95, T.ii_95, T.s8_95, T.sl_95, T.st_95, T.un_95, T.zo_93, hB, hxc, hx1.1, hx1.2]
    rw [hn1] at hB hlt2 ⊢
    obtain ⟨Ha, hHa⟩ : ∃ Ha, (H.alloc (.cells [.int .i64 0, .int .i64 0, .int .i64 0, .int .i64 0] .own)).put H.next (.live (.cells [x.key, x.val, .int .i64 x.goes, .int .i64 x.put] .own)) = Ha := ⟨_, rfl⟩
    rw [hHa]
    have ua : Upd H Ha [] := by rw [← hHa]; exact (Upd.alloc _ _ _).put (.inr (Nat.le_refl _))
    have ga : Ha.get H.next = .live (.cells [x.key, x.val, .int .i64 x.goes, .int .i64 x.put] .own) := by rw [← hHa, get_put, if_pos rfl]
    have na : H.next < Ha.next := by rw [← hHa]; exact Nat.lt_succ_self _
    clear hHa
    refine fun B' => CodeH.of_vc [] hm k2 ?_
    obtain ⟨Hb, hHb⟩ : ∃ Hb, Ha.put (h.next + 1) B' = Hb := ⟨_, rfl⟩
    rw [hHb]
    have e2 : Hb.get h.next = .live (.cells [vo] .own) := by rw [← hHb, get_put, if_neg (by omega), ua.2 _ (by omega) (by simp)]; exact a2
    have eB : Hb.get (h.next + 1) = B' := by rw [← hHb, get_put, if_pos rfl]
    have eg : Hb.get H.next = .live (.cells [x.key, x.val, .int .i64 x.goes, .int .i64 x.put] .own) := by rw [← hHb, get_put, if_neg (by omega)]; exact ga
    have e3 : OwnRow thE Hb vo D s := (a3.upd ua (by simp)).keep (by rw [← hHb, next_put]; exact Nat.le_refl _) fun d hd => by rw [← hHb, get_put, if_neg (by have := a4 d hd; omega)]
    have e5 : Upd h Hb [] := by rw [← hHb]; exact (a5.trans ua (by simp)).put (.inr (by omega))
    have e9 : Hb.next = Ha.next := by rw [← hHb]; rfl
    have eo : ∀ k, k < H.next → k ≠ h.next + 1 → Hb.get k = H.get k := fun k hk1 hk2 => by rw [← hHb, get_put, if_neg hk2, ua.2 k hk1 (by simp)]
    clear hHb
    have ho := e3.row.one
    simp (config := { dsimp := false, maxSteps := 10000000 }) (disch := omega) only [go_sem, reduceIte, Nat.reduceEqDiff, reduceCtorEq, Nat.reduceAdd, Nat.reduceMul, Int.reduceToNat, Int.reduceLE, Int.reduceLT, Int.reduceEq, Int.reduceNe, Nat.reduceLeDiff, Int.reducePow, Nat.reducePow, Nat.reduceLT, Nat.reduceSub, Nat.reduceMod, Nat.reduceDiv, slot_neg, slot_pos, T.ag_93, T.ag_95, T.eb_95, T.ez_95, T.ii_95, T.s8_95, T.sl_95, T.st_95, T.un_95, T.zo_93, q2, e2, eg, ho.1, ho.2]
    obtain ⟨Hn, hHn⟩ : ∃ Hn, Hb.alloc (.cells [x.key, x.val, .int .i64 x.goes, .int .i64 x.put] .own) = Hn := ⟨_, rfl⟩
    rw [hHn]
    have un : Upd Hb Hn [] := by rw [← hHn]; exact Upd.alloc _ _ _
    clear hHn
    have m3 := e3.upd un (by simp)
    have n1 := un.1
    have hDk : ∀ k, k < h.next + 2 → k ∉ D := fun k hk hd => by have := a4 k hd; omega
    refine ⟨by simp [hx1], by simp [hx1], app_own (E := thE) (ns := [x]) m3 rfl (by simp [Enc.flat, thE]) rfl (by simp only [List.length_singleton]; omega) fun u3 H3 D3 hO3 hU3 hD3 => ?_⟩
    have n3 := hU3.1
    have k2' := (hU3.2 h.next (by omega) (hDk _ (by omega))).trans ((un.2 h.next (by omega) (by simp)).trans e2)
    have kB' := (hU3.2 (h.next + 1) (by omega) (hDk _ (by omega))).trans ((un.2 (h.next + 1) (by omega) (by simp)).trans eB)
    have hou := hO3.row.one
    simp (config := { dsimp := false, maxSteps := 10000000 }) (disch := omega) only [go_sem, reduceIte, Nat.reduceEqDiff, reduceCtorEq, Nat.reduceAdd, Nat.reduceMul, Int.reduceToNat, Int.reduceLE, Int.reduceLT, Int.reduceEq, Int.reduceNe, Nat.reduceLeDiff, Int.reducePow, Nat.reducePow, Nat.reduceLT, Nat.reduceSub, Nat.reduceMod, Nat.reduceDiv, slot_neg, slot_pos, T.ag_93, T.ag_95, T.eb_95, T.ez_95, T.ii_95, T.s8_95, T.sl_95, T.st_95, T.un_95, T.zo_93, q2, k2', hou.1, hou.2]
    have hD4 : ∀ d ∈ D3, h.next + 2 ≤ d := fun d hd => by
      rcases hD3 d hd with h1 | h1
      · exact a4 d h1
      · omega
    refine ⟨kB', D3, ⟨by omega, u3, rfl, ?_, hD4, ((e5.trans un (by simp)).trans hU3 fun d hd => .inr (by have := a4 d hd; omega)).put (.inr (by omega))⟩, fun d hd => ?_, by omega, fun k hk1 hk2 hk3 => ?_⟩
    · exact hO3.keep (by rw [next_put]; exact Nat.le_refl _) fun d hd => by rw [get_put, if_neg (by have := hD4 d hd; omega)]
    · rcases hD3 d hd with h1 | h1
      · exact .inl h1
      · exact .inr (by omega)
    · rw [if_neg (by omega), hU3.2 k (by omega) hk3, un.2 k (by omega) (by simp), eo k hk1 (by omega)]
theorem CollectI_ph (h : Heap) (b id : Nat) (l : List Th) (cl : Nat) (hb : l.Pairwise fun a b => a.born < b.born) (hcl : ∀ x ∈ l, x.born < cl) (hll : l.length ≤ 10000) (o : Own) (gb : h.get b = .live (.cells [.map (some id)] o)) (gm : h.get id = .live (.map (ents l) cl .own)) (hbn : b < h.next) (hidn : id < h.next) :
    @CallsH Try.prog 42 #[.func (.func 72) #[] #[.pointer (some ⟨b, 0, none⟩)]] h ⟨fun u H => ∃ s D, s.Perm l ∧ OwnRow thE H u D s ∧ (∀ d ∈ D, h.next ≤ d) ∧ Upd h H []⟩ := by
  (refine calls_of_vc [] hm Try.func42 rfl (ts := [2]) rfl (by kernel_rfl) (by simp) ?_; simp (config := { dsimp := false, maxSteps := 10000000 }) (disch := omega) only [go_sem, reduceIte, Nat.reduceEqDiff, reduceCtorEq, Nat.reduceAdd, Nat.reduceMul, Int.reduceToNat, Int.reduceLE, Int.reduceLT, Int.reduceEq, Int.reduceNe, Nat.reduceLeDiff, Int.reducePow, Nat.reducePow, Nat.reduceLT, Nat.reduceSub, Nat.reduceMod, Nat.reduceDiv, slot_neg, slot_pos, T.gf_71, init_a])
  refine (AppendI_ph h b id l cl hb hcl hll o gb gm hbn hidn).mono fun u H ⟨s, D, h1, h2, h3, h4⟩ => ?_
  simp (config := { dsimp := false, maxSteps := 10000000 }) (disch := omega) only [go_sem, reduceIte, Nat.reduceEqDiff, reduceCtorEq, Nat.reduceAdd, Nat.reduceMul, Int.reduceToNat, Int.reduceLE, Int.reduceLT, Int.reduceEq, Int.reduceNe, Nat.reduceLeDiff, Int.reducePow, Nat.reducePow, Nat.reduceLT, Nat.reduceSub, Nat.reduceMod, Nat.reduceDiv, slot_neg, slot_pos, T.gf_71]
  exact ⟨s, D, h1, h2, h3, h4⟩
/-- cache.order -/
theorem orderI_ph (h : Heap) (x y : Th) : @CallsH Try.prog 44 #[x.agg, y.agg] h.ro ⟨fun u _ => u = .int .i64 (ordS x y)⟩ := by
  have hxc : x.agg.cells = #[x.key, x.val, .int .i64 x.goes, .int .i64 x.put] := cells_agg
  have hyc : y.agg.cells = #[y.key, y.val, .int .i64 y.goes, .int .i64 y.put] := cells_agg
  have hx1 := x.one
  have hy1 := y.one
  (refine calls_of_vc [] hm Try.func44 rfl (ts := [4]) rfl (by kernel_rfl) (by simp) ?_; simp (config := { dsimp := false, maxSteps := 10000000 }) (disch := omega) only [go_sem, reduceIte, Nat.reduceEqDiff, reduceCtorEq, Nat.reduceAdd, Nat.reduceMul, Int.reduceToNat, Int.reduceLE, Int.reduceLT, Int.reduceEq, Int.reduceNe, Nat.reduceLeDiff, Int.reducePow, Nat.reducePow, Nat.reduceLT, Nat.reduceSub, Nat.reduceMod, Nat.reduceDiv, slot_neg, slot_pos, T.ag_3, T.eb_22, T.ez_22, T.fo_93_2, T.fo_93_3, T.gf_73, T.gf_74, init_a, hxc, hyc, hx1.1, hx1.2, hy1.1, hy1.2])
  refine draw_plan [] (.takeS 0 (.takeS 1 (.takeS 2 (.takeS 3 (.take 5 (.take 6 (.take 7 (.take 8 (.alt 4 (.alt 9 (.alt 10 (.alt 11 (.takeS 12 .done) .stop) .stop) .stop) .stop))))))))) hm (by kernel_rfl) (by kernel_rfl) ?_
  simp (config := { dsimp := false, maxSteps := 10000000 }) (disch := omega) only [go_sem, reduceIte, Nat.reduceEqDiff, reduceCtorEq, Nat.reduceAdd, Nat.reduceMul, Int.reduceToNat, Int.reduceLE, Int.reduceLT, Int.reduceEq, Int.reduceNe, Nat.reduceLeDiff, Int.reducePow, Nat.reducePow, Nat.reduceLT, Nat.reduceSub, Nat.reduceMod, Nat.reduceDiv, slot_neg, slot_pos, T.ag_3, T.eb_22, T.ez_22, T.fo_93_2, T.fo_93_3, T.gf_73, T.gf_74, hxc, hyc, hx1.1, hx1.2, hy1.1, hy1.2]
  refine ⟨by omega, CallsH.pure _ rfl (Compare_ph _ _ _) ?_⟩
  simp (config := { dsimp := false, maxSteps := 10000000 }) (disch := omega) only [go_sem, reduceIte, Nat.reduceEqDiff, reduceCtorEq, Nat.reduceAdd, Nat.reduceMul, Int.reduceToNat, Int.reduceLE, Int.reduceLT, Int.reduceEq, Int.reduceNe, Nat.reduceLeDiff, Int.reducePow, Nat.reducePow, Nat.reduceLT, Nat.reduceSub, Nat.reduceMod, Nat.reduceDiv, slot_neg, slot_pos, T.ag_3, T.eb_22, T.ez_22, T.fo_93_2, T.fo_93_3, T.gf_73, T.gf_74]
  refine CallsH.pure _ rfl (Compare_ph _ _ _) ?_
  simp (config := { dsimp := false, maxSteps := 10000000 }) (disch := omega) only [go_sem, reduceIte, Nat.reduceEqDiff, reduceCtorEq, Nat.reduceAdd, Nat.reduceMul, Int.reduceToNat, Int.reduceLE, Int.reduceLT, Int.reduceEq, Int.reduceNe, Nat.reduceLeDiff, Int.reducePow, Nat.reducePow, Nat.reduceLT, Nat.reduceSub, Nat.reduceMod, Nat.reduceDiv, slot_neg, slot_pos, T.ag_3, T.eb_22, T.ez_22, T.fo_93_2, T.fo_93_3, T.gf_73, T.gf_74]
  refine CallsH.pure _ rfl (Or_ph _ _ _ (cmpS x.goes y.goes) (cmpS x.put y.put) ((get_ro ..).trans ((congrArg Slot.lock ((get_alloc ..).trans (if_pos rfl))).trans rfl))) ?_
  simp (config := { dsimp := false, maxSteps := 10000000 }) (disch := omega) only [go_sem, reduceIte, Nat.reduceEqDiff, reduceCtorEq, Nat.reduceAdd, Nat.reduceMul, Int.reduceToNat, Int.reduceLE, Int.reduceLT, Int.reduceEq, Int.reduceNe, Nat.reduceLeDiff, Int.reducePow, Nat.reducePow, Nat.reduceLT, Nat.reduceSub, Nat.reduceMod, Nat.reduceDiv, slot_neg, slot_pos, T.ag_3, T.eb_22, T.ez_22, T.fo_93_2, T.fo_93_3, T.gf_73, T.gf_74]
  rfl
/-- slices.MinFunc by it -/
theorem MinI_ph (h : Heap) (v : Value) (l : List Th) (hr : RowIn thE h v l) (hlt : ∀ A n st, v = .slice (some A) n st → A.block < h.next) (hl0 : 0 < l.length) (hl : l.length < 9223372036854775807) :
    @CallsH Try.prog 41 #[v, .func (.func 44) #[] #[]] h ⟨fun u H => Upd h H [] ∧ ∃ x ∈ l, u = x.agg ∧ ∀ y ∈ l, leT x y⟩ := by
  obtain ⟨A, st, hv⟩ := hr.form
  have c0 : ((l.length : Int) < 1) = False := eq_false (by omega)
  have w0 : l[0]? = some l[0] := List.getElem?_eq_getElem _
  rcases hr with ⟨_, hnil⟩ | ⟨q, off, vs, o, hv', hq, hR⟩
  · rw [hnil] at hl0; simp at hl0
  have hqn : q < h.next := hlt _ _ _ hv'
  have ha := hR.at w0
  have h1' : List.take 4 (List.drop off vs) = thE.enc l[0] := by have := ha.1; simpa [thE] using this
  have h2' : off + 4 ≤ vs.length := by have := ha.2; simpa [thE] using this
  have hK : thE.k = 4 := rfl
  have n1 : (q = h.next) = False := eq_false (by omega)
  have n2 : (q = h.next + 1) = False := eq_false (by omega)
  rw [hv']
  generalize l[0] = x0 at *
  have hx1 := x0.one
  have hKe : thE.enc x0 = [x0.key, x0.val, .int .i64 x0.goes, .int .i64 x0.put] := rfl
  (refine calls_of_vcR (rs := [.cell 4 93]) [] hm Try.func41 rfl rfl (by kernel_rfl) (by simp) ?_; simp (config := { dsimp := false, maxSteps := 10000000 }) (disch := omega) only [go_sem, reduceIte, Nat.reduceEqDiff, reduceCtorEq, Nat.reduceAdd, Nat.reduceMul, Int.reduceToNat, Int.reduceLE, Int.reduceLT, Int.reduceEq, Int.reduceNe, Nat.reduceLeDiff, Int.reducePow, Nat.reducePow, Nat.reduceLT, Nat.reduceSub, Nat.reduceMod, Nat.reduceDiv, slot_neg, slot_pos, T.ag_93, T.es_95, T.ib_3, T.ii_95, T.ip_3, T.s8_95, T.sl_95, T.st_95, T.un_95, T.zo_93, init_a, c0, hq, hK, h1', hKe, n1, n2, hx1.1, hx1.2])
  have hx0 : x0 ∈ l := List.mem_of_getElem? w0
  obtain ⟨H0, hH0⟩ : ∃ H0, H0 = (h.alloc (.cells [.int .i64 0, .int .i64 0, .int .i64 0, .int .i64 0] .own)) := ⟨_, rfl⟩
  refine ⟨by omega, h2', loop_intro [] hm (fun r H => ∃ i x, i ≤ l.length ∧ x ∈ l ∧ (∀ j y, j < i → l[j]? = some y → leT x y) ∧ r 0 = .slice (some ⟨q, off, none⟩) l.length 4 ∧ r 1 = .func (.func 44) #[] #[] ∧ r 4 = .pointer (some ⟨h.next, 0, none⟩) ∧ r 5 = .pointer (some ⟨h.next + 1, 0, none⟩) ∧ r 6 = .int .i64 (i : Nat) ∧
    H.get (h.next + 1) = .live (.cells [x.key, x.val, .int .i64 x.goes, .int .i64 x.put] .own) ∧ Upd h H [] ∧ H.next = h.next + 2 ∧ H.get h.next = .live (.cells [.int .i64 0, .int .i64 0, .int .i64 0, .int .i64 0] .own)) (fun r _ => match r 6 with | .int _ i => l.length - i.toNat | _ => 0) ?_ ?_⟩
  · refine ⟨1, x0, by omega, hx0, fun j y hj hy => ?_, by simp [upd, initR], by simp [upd, initR], by simp [upd], by simp [upd], by simp [upd], by simp (config := { dsimp := false }) (disch := omega) only [get_alloc, get_put, get_app, next_alloc, next_put, next_app, get_mask, get_unmask, next_mask, next_unmask, List.mem_cons, List.not_mem_nil, or_false, true_or, or_true, false_or, and_true, true_and, and_false, false_and, not_true_eq_false, not_false_eq_true, ne_eq, reduceIte, slot_neg, slot_pos], ?_, rfl, by simp (config := { dsimp := false }) (disch := omega) only [get_alloc, get_put, get_app, next_alloc, next_put, next_app, get_mask, get_unmask, next_mask, next_unmask, List.mem_cons, List.not_mem_nil, or_false, true_or, or_true, false_or, and_true, true_and, and_false, false_and, not_true_eq_false, not_false_eq_true, ne_eq, reduceIte, slot_neg, slot_pos]⟩
    · obtain rfl : j = 0 := by omega
      rw [w0] at hy; cases hy
      exact .inr ⟨rfl, Int.le_refl _⟩
    · exact ((Upd.alloc _ _ _).allocs).put (.inr (Nat.le_succ _))
  · rintro r H ⟨i, x, hi, hx, hle, q0, q1, q4, q5, q6, g5, hu, hn, g4⟩
    have hx1 := x.one
    have gq := (hu.2 q hqn (by simp)).trans hq
    have m1 : (q = h.next + 1) = False := eq_false (by omega)
    by_cases hil : i < l.length
    · have c1 : ((i : Int) < (l.length : Int)) = True := eq_true (by omega)
      have w1 : IntKind.i64.wrap ((i : Int) + 1) = ((i + 1 : Nat) : Int) := by rw [i64wrap] <;> omega
      have hyi : l[i]? = some l[i] := List.getElem?_eq_getElem hil
      have hym : l[i] ∈ l := List.getElem_mem _
      have hb1 := hR.at hyi
      rw [hK] at hb1
      generalize l[i] = y at *
      have hy1 := y.one
      have hye : thE.enc y = [y.key, y.val, .int .i64 y.goes, .int .i64 y.put] := rfl
      simp (config := { dsimp := false, maxSteps := 10000000 }) (disch := omega) only [go_sem, reduceIte, Nat.reduceEqDiff, reduceCtorEq, Nat.reduceAdd, Nat.reduceMul, Int.reduceToNat, Int.reduceLE, Int.reduceLT, Int.reduceEq, Int.reduceNe, Nat.reduceLeDiff, Int.reducePow, Nat.reducePow, Nat.reduceLT, Nat.reduceSub, Nat.reduceMod, Nat.reduceDiv, slot_neg, slot_pos, T.ag_93, T.es_95, T.ib_3, T.ii_95, T.ip_3, T.s8_95, T.sl_95, T.st_95, T.un_95, T.zo_93, q0, q1, q4, q5, q6, c1, gq, g5, hb1.1, hye, m1]
      refine ⟨hb1.2, by kernel_rfl, ?_⟩
      refine ⟨_, rfl, orderI_ph H y x, ?_⟩
      have hol := ord_lt x y
      by_cases hlt : leT x y
      · have c2 : (ordS y x < 0) = False := by rw [hol]; simp [hlt]
        simp (config := { dsimp := false, maxSteps := 10000000 }) (disch := omega) only [go_sem, reduceIte, Nat.reduceEqDiff, reduceCtorEq, Nat.reduceAdd, Nat.reduceMul, Int.reduceToNat, Int.reduceLE, Int.reduceLT, Int.reduceEq, Int.reduceNe, Nat.reduceLeDiff, Int.reducePow, Nat.reducePow, Nat.reduceLT, Nat.reduceSub, Nat.reduceMod, Nat.reduceDiv, slot_neg, slot_pos, T.ag_93, T.es_95, T.ib_3, T.ii_95, T.ip_3, T.s8_95, T.sl_95, T.st_95, T.un_95, T.zo_93, q0, q1, q4, q5, q6, c2]
        rw [w1]
        refine ⟨⟨i + 1, x, hil, hx, fun j z hj hz => ?_, rfl, g5, hu, hn, g4⟩, by omega⟩
        rcases Nat.lt_or_ge j i with h1 | h1
        · exact hle j z h1 hz
        · obtain rfl : j = i := by omega
          rw [hyi] at hz; cases hz; exact hlt
      · have c2 : (ordS y x < 0) = True := by rw [hol]; simp [hlt]
        simp (config := { dsimp := false, maxSteps := 10000000 }) (disch := omega) only [go_sem, reduceIte, Nat.reduceEqDiff, reduceCtorEq, Nat.reduceAdd, Nat.reduceMul, Int.reduceToNat, Int.reduceLE, Int.reduceLT, Int.reduceEq, Int.reduceNe, Nat.reduceLeDiff, Int.reducePow, Nat.reducePow, Nat.reduceLT, Nat.reduceSub, Nat.reduceMod, Nat.reduceDiv, slot_neg, slot_pos, T.ag_93, T.es_95, T.ib_3, T.ii_95, T.ip_3, T.s8_95, T.sl_95, T.st_95, T.un_95, T.zo_93, q0, q1, q4, q5, q6, c2, gq, g5, hb1.1, hye, m1, hy1.1, hy1.2]
        rw [w1]
        refine ⟨by omega, hb1.2, ⟨i + 1, y, hil, hym, fun j z hj hz => ?_, rfl, rfl, hu.put (.inr (by omega)), hn, g4⟩, by omega⟩
        rcases Nat.lt_or_ge j i with h1 | h1
        · have h2 := hle j z h1 hz
          unfold leT at *; omega
        · obtain rfl : j = i := by omega
          rw [hyi] at hz; cases hz; exact .inr ⟨rfl, Int.le_refl _⟩
    · obtain rfl : i = l.length := by omega
      have c1 : ((l.length : Int) < (l.length : Int)) = False := eq_false (by omega)
      simp (config := { dsimp := false, maxSteps := 10000000 }) (disch := omega) only [go_sem, reduceIte, Nat.reduceEqDiff, reduceCtorEq, Nat.reduceAdd, Nat.reduceMul, Int.reduceToNat, Int.reduceLE, Int.reduceLT, Int.reduceEq, Int.reduceNe, Nat.reduceLeDiff, Int.reducePow, Nat.reducePow, Nat.reduceLT, Nat.reduceSub, Nat.reduceMod, Nat.reduceDiv, slot_neg, slot_pos, T.ag_93, T.es_95, T.ib_3, T.ii_95, T.ip_3, T.s8_95, T.sl_95, T.st_95, T.un_95, T.zo_93, q0, q1, q4, q5, q6, c1, g5, g4, hx1.1, hx1.2]
      exact ⟨hu.put (.inr (Nat.le_refl _)), x, hx, rfl, fun y hy => by
        obtain ⟨j, hj⟩ := List.getElem?_of_mem hy
        exact hle j y (List.getElem?_eq_some_iff.1 hj).1 hj⟩

end Ph
