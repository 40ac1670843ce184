import Derived.Test.YtliblomkhapibaaL7
set_option maxRecDepth 100000
set_option maxHeartbeats 1000000
set_option linter.unusedSimpArgs false
set_option linter.unusedVariables false
namespace Ph
open Go Go.Proofs
attribute [local irreducible] Value.cells
attribute [local go_sem ↓] y_move y_assign y_pick y_nil y_bin y_un y_fa y_field y_ext y_ia y_ix y_slice y_build y_mf y_load y_len y_min y_max y_conv y_bs y_mk y_alloc y_box y_store y_clear y_app y_callf y_callt s_move s_assign s_pick s_nil s_bin s_un s_fa s_field s_ext s_ia s_ix s_slice s_conv s_build s_bs s_mf s_alloc s_box s_load s_store s_len s_clear s_min s_max s_app s_call q_call q_move q_assign q_pick q_nil q_bin q_un q_fa q_field q_ext q_ia q_ix q_slice q_conv q_build q_mf q_load q_len q_min q_max l_nil l_move l_assign l_pick l_nilc l_bin l_un l_fa l_field l_ext l_ia l_ix l_slice l_conv l_build l_mf l_load l_len l_min l_max l_call put_eq putN_eq o_nil o_plain o_gate v_nil v_plain v_gate vc_skip vc_region vc_seq vc_cond vc_block vc_loop vc_rf vc_exit vc_ret blk_normal blk_ret blk_exit on_normal on_ret on_exit vc_drawn draw_q s_mk l_bs l_mk l_alloc l_box l_store l_app l_clear pl_done pl_takeS pl_take pl_alt pl_stop one_plain one_gate
attribute [local go_sem] clear_nil clear_sl onAgg_a onTuple_t onFn_f onFn_y onFunc_f c_int c_nil c_sl c_str sl_sl sl_nil sl_str ix_str ix_agg n_nil n_sl n_str app_eq k_nil k_sl len_sl len_str upd_some upd_none ev_tmp ev_const ev_func rd_some gdst_eq otmp_t otmp_c get_put get_alloc next_put next_alloc get_app next_app init_a resV1 resV2 onPtr_ptr onBool_b onInt_i onSlice_s onSome_s onCells_c lett_eq gate_tt gate_tf gate_ff gate_ft gate_dt gate_df also_eq bin un minmax io_none io_some bo_none bo_some partOf List.getElem?_cons_zero List.getElem?_cons_succ List.getElem?_toArray Option.map_some Option.map_none Option.bind_some ne_eq not_true_eq_false not_false_eq_true false_implies true_implies and_true true_and and_self Bool.false_eq_true Nat.zero_add Nat.add_zero List.size_toArray List.length_cons List.length_nil List.map_toArray List.map_cons List.map_nil Array.getD_eq_getD_getElem? Option.getD_some Bool.not_true Bool.not_false Bool.not_eq_true Option.isNone_some Option.isNone_none List.append_toArray List.append_nil List.nil_append List.cons_append decide_true decide_false in_nil in_cons Bool.and_false Bool.and_true Bool.or_false Bool.true_or Bool.false_or get_mask next_mask get_unmask next_unmask ac_move ac_assign ac_pick ac_nil ac_bin ac_un ac_fa ac_field ac_ext ac_ia ac_ix ac_slice ac_build ac_mf ac_call ac_load ac_conv accP_p accS_s accS_n accS_i accS_t fixed_ro fixed_lock fixed_own get_ro next_ro lock_live' lock_cells List.mem_cons List.not_mem_nil or_false false_or or_true true_or and_false false_and IntKind.bits Int.natCast_zero Int.natCast_one size_str data_str list_str mk_str ext_str app_str bytes_str w_byte w_byteu Int.toNat_natCast Int.toNat_zero Int.toNat_one Nat.sub_zero ge_iff_le gt_iff_lt Nat.le_refl Int.le_refl List.drop_zero Int.ofNat_eq_natCast Int.natCast_nonneg Int.sub_zero oc_int oc_bool oc_str oc_ptr oc_sl oc_map oc_func List.set_cons_zero List.set_cons_succ Nat.mul_one List.all_cons List.all_nil Bool.and_self res_nil res_tmp res_cell tup_one tup_two tup_nil fill_nil repl_zero cells_agg List.append_eq List.toList_toArray Nat.zero_mul Nat.one_mul repl_one repl_two onSome_build fill_cons onSome_lit splice_eq cells_int cells_bool cells_str cells_ptr cells_sl cells_map cells_func loadK_n loadK_s load_k storeK_n storeK_s store_k all_arr List.take_zero List.take_succ_cons List.drop_succ_cons List.take_nil List.drop_nil lk_own lk_ro lk_lock lk_lk fixed_lk gate_nt gate_nf gate3_b gate3_u undef Bool.true_and Bool.false_and nx_l nx_r nx_lt put_put resV0
/-! grow, check, give's test. -/
def growS (s : St) (x : Pk) : St := if x.asks = false ∨ x.at_ ≤ s.since ∨ 1073741824 < s.window then s else if s.window < s.mark then { s with window := s.window + x.size } else { s with window := s.window + 1200 * x.size / s.window }
theorem grow_ph (h : Heap) (p : Nat) (D : List Nat) (s : St) (x : Pk) (hS : StR h p D s) (hs : 2400 ≤ s.window ∧ s.window ≤ 2000000000) (hx : 1 ≤ x.size ∧ x.size ≤ 65535) :
    @CallsH Try.prog 36 #[.pointer (some ⟨p, 0, none⟩), .agg (pkE.enc x).toArray] h ⟨fun u H => u = .tuple #[] ∧ MP h p D (growS s x) H⟩ := by
  obtain ⟨hpn, hpD, wv, hp, hO⟩ := hS
  have hw1 := hO.row.one
  have hne : (p = h.next) = False := eq_false (by omega)
  have fin : ∀ s' : St, s'.waits = s.waits → MP h p D s' ((h.alloc (.cells (pkE.enc x) .own)).put p (.live (.cells (stC wv s') .own))) := fun s' e =>
    MP.put hpn (Upd.alloc _ _ _) (e ▸ hO.upd (Upd.alloc h _ []) (by simp)) hpD fun d hd => .inl hd
  have fin0 : MP h p D s (h.alloc (.cells (pkE.enc x) .own)) := ⟨⟨D, ⟨Nat.lt_succ_of_lt hpn, hpD, wv, by rw [get_alloc, if_neg (by omega)]; exact hp, hO.upd (Upd.alloc h _ []) (by simp)⟩, fun d hd => .inl hd⟩, Upd.alloc _ _ _⟩
  by_cases hc : x.asks = false ∨ x.at_ ≤ s.since ∨ 1073741824 < s.window
  · have e : growS s x = s := by simp only [growS, if_pos hc]
    rw [e]
    by_cases c1 : x.asks = false
    · (refine calls_of_vc [] hm Try.func36 rfl (ts := []) rfl (by kernel_rfl) (by simp) ?_; simp (config := { dsimp := false }) only [go_sem, reduceIte, Nat.reduceEqDiff, reduceCtorEq, Nat.reduceAdd, Nat.reduceMul, Int.reduceToNat, Int.reduceLE, Int.reduceLT, Int.reduceEq, Int.reduceNe, Nat.reduceLeDiff, Int.reducePow, Nat.reducePow, Nat.reduceLT, Nat.reduceSub, Nat.reduceMod, Nat.reduceDiv, T.ag_3, T.ag_4, T.fo_63_10, T.fo_63_8, T.fo_63_9, T.fo_66_1, T.fo_66_2, T.fo_66_3, T.ib_3, T.ip_3, init_a, hp, stC, pkE, hne, c1])
      simpa [pkE, c1] using fin0
    · have c1 : x.asks = true := by simpa using c1
      by_cases c2 : x.at_ ≤ s.since
      · (refine calls_of_vc [] hm Try.func36 rfl (ts := []) rfl (by kernel_rfl) (by simp) ?_; simp (config := { dsimp := false }) only [go_sem, reduceIte, Nat.reduceEqDiff, reduceCtorEq, Nat.reduceAdd, Nat.reduceMul, Int.reduceToNat, Int.reduceLE, Int.reduceLT, Int.reduceEq, Int.reduceNe, Nat.reduceLeDiff, Int.reducePow, Nat.reducePow, Nat.reduceLT, Nat.reduceSub, Nat.reduceMod, Nat.reduceDiv, T.ag_3, T.ag_4, T.fo_63_10, T.fo_63_8, T.fo_63_9, T.fo_66_1, T.fo_66_2, T.fo_66_3, T.ib_3, T.ip_3, init_a, hp, stC, pkE, hne, c1, c2])
        simpa [pkE, c1] using fin0
      · have c3 : 1073741824 < s.window := by rcases hc with h1 | h1 | h1; rw [c1] at h1; cases h1; exact absurd h1 c2; exact h1
        (refine calls_of_vc [] hm Try.func36 rfl (ts := []) rfl (by kernel_rfl) (by simp) ?_; simp (config := { dsimp := false }) only [go_sem, reduceIte, Nat.reduceEqDiff, reduceCtorEq, Nat.reduceAdd, Nat.reduceMul, Int.reduceToNat, Int.reduceLE, Int.reduceLT, Int.reduceEq, Int.reduceNe, Nat.reduceLeDiff, Int.reducePow, Nat.reducePow, Nat.reduceLT, Nat.reduceSub, Nat.reduceMod, Nat.reduceDiv, T.ag_3, T.ag_4, T.fo_63_10, T.fo_63_8, T.fo_63_9, T.fo_66_1, T.fo_66_2, T.fo_66_3, T.ib_3, T.ip_3, init_a, hp, stC, pkE, hne, c1, c2, c3])
        simpa [pkE, c1] using fin0
  · have c1 : x.asks = true := by cases hh : x.asks <;> simp_all
    have c2 : ¬ x.at_ ≤ s.since := fun h1 => hc (.inr (.inl h1))
    have c3 : ¬ 1073741824 < s.window := fun h1 => hc (.inr (.inr h1))
    by_cases c4 : s.window < s.mark
    · have e : growS s x = { s with window := s.window + x.size } := by simp only [growS, if_neg hc, if_pos c4]
      have w1 : IntKind.i64.wrap (s.window + x.size) = s.window + x.size := i64wrap (by omega) (by omega)
      rw [e]
      (refine calls_of_vc [] hm Try.func36 rfl (ts := []) rfl (by kernel_rfl) (by simp) ?_; simp (config := { dsimp := false }) only [go_sem, reduceIte, Nat.reduceEqDiff, reduceCtorEq, Nat.reduceAdd, Nat.reduceMul, Int.reduceToNat, Int.reduceLE, Int.reduceLT, Int.reduceEq, Int.reduceNe, Nat.reduceLeDiff, Int.reducePow, Nat.reducePow, Nat.reduceLT, Nat.reduceSub, Nat.reduceMod, Nat.reduceDiv, T.ag_3, T.ag_4, T.fo_63_10, T.fo_63_8, T.fo_63_9, T.fo_66_1, T.fo_66_2, T.fo_66_3, T.ib_3, T.ip_3, init_a, hp, stC, pkE, hne, c1, c2, c3, c4])
      refine draw_plan0 (.takeS 0 (.takeS 1 (.takeS 2 (.takeS 3 (.takeS 4 (.takeS 5 (.takeS 6 (.takeS 7 (.takeS 8 (.alt 9 .done .stop)))))))))) hm (by kernel_rfl) (by kernel_rfl) ?_
      simp (config := { dsimp := false }) only [go_sem, reduceIte, Nat.reduceEqDiff, reduceCtorEq, Nat.reduceAdd, Nat.reduceMul, Int.reduceToNat, Int.reduceLE, Int.reduceLT, Int.reduceEq, Int.reduceNe, Nat.reduceLeDiff, Int.reducePow, Nat.reducePow, Nat.reduceLT, Nat.reduceSub, Nat.reduceMod, Nat.reduceDiv, T.ag_3, T.ag_4, T.fo_63_10, T.fo_63_8, T.fo_63_9, T.fo_66_1, T.fo_66_2, T.fo_66_3, T.ib_3, T.ip_3, hp, stC, pkE, hne, c1, w1]
      simpa [pkE, stC, c1] using fin { s with window := s.window + x.size } rfl
    · have e : growS s x = { s with window := s.window + 1200 * x.size / s.window } := by simp only [growS, if_neg hc, if_neg c4]
      have w0 : (s.window ≠ 0) = True := eq_true (by omega)
      have w0' : (s.window = 0) = False := eq_false (by omega)
      have hd1 : 0 ≤ 1200 * x.size / s.window := Int.ediv_nonneg (by omega) (by omega)
      have hd2 : 1200 * x.size / s.window ≤ 1200 * x.size := Int.ediv_le_self _ (by omega)
      have w1 : IntKind.i64.wrap (1200 * x.size) = 1200 * x.size := i64wrap (by omega) (by omega)
      have w2 : IntKind.i64.wrap ((1200 * x.size).tdiv s.window) = 1200 * x.size / s.window := by rw [tdiv_pos (by omega)]; exact i64wrap (by omega) (by omega)
      have w3 : IntKind.i64.wrap (s.window + 1200 * x.size / s.window) = s.window + 1200 * x.size / s.window := i64wrap (by omega) (by omega)
      rw [e]
      (refine calls_of_vc [] hm Try.func36 rfl (ts := []) rfl (by kernel_rfl) (by simp) ?_; simp (config := { dsimp := false }) only [go_sem, reduceIte, Nat.reduceEqDiff, reduceCtorEq, Nat.reduceAdd, Nat.reduceMul, Int.reduceToNat, Int.reduceLE, Int.reduceLT, Int.reduceEq, Int.reduceNe, Nat.reduceLeDiff, Int.reducePow, Nat.reducePow, Nat.reduceLT, Nat.reduceSub, Nat.reduceMod, Nat.reduceDiv, T.ag_3, T.ag_4, T.fo_63_10, T.fo_63_8, T.fo_63_9, T.fo_66_1, T.fo_66_2, T.fo_66_3, T.ib_3, T.ip_3, init_a, hp, stC, pkE, hne, c1, c2, c3, c4])
      refine draw_plan0 (.takeS 0 (.takeS 1 (.takeS 2 (.takeS 3 (.takeS 4 (.takeS 5 (.takeS 6 (.takeS 7 (.takeS 8 (.takeS 9 (.takeS 10 (.takeS 11 (.takeS 12 (.takeS 13 (.takeS 14 (.alt 15 .done .stop)))))))))))))))) hm (by kernel_rfl) (by kernel_rfl) ?_
      simp (config := { dsimp := false }) only [go_sem, reduceIte, Nat.reduceEqDiff, reduceCtorEq, Nat.reduceAdd, Nat.reduceMul, Int.reduceToNat, Int.reduceLE, Int.reduceLT, Int.reduceEq, Int.reduceNe, Nat.reduceLeDiff, Int.reducePow, Nat.reducePow, Nat.reduceLT, Nat.reduceSub, Nat.reduceMod, Nat.reduceDiv, T.ag_3, T.ag_4, T.fo_63_10, T.fo_63_8, T.fo_63_9, T.fo_66_1, T.fo_66_2, T.fo_66_3, T.ib_3, T.ip_3, hp, stC, pkE, hne, c1, w0, w0', w1, w2, w3]
      simpa [pkE, stC, c1] using fin { s with window := s.window + 1200 * x.size / s.window } rfl
def badSp (x : Sp) : Bool := decide (x.fr > x.to ∨ x.fr < 0)
def farSp (t : Int) (x : Sp) : Bool := decide (x.to > t)
theorem check1_ph (h : Heap) (x : Sp) : @CallsH Try.prog 44 #[.agg (spE.enc x).toArray] h ⟨fun u _ => u = .bool (badSp x)⟩ := by
  (refine calls_of_vc [] hm Try.func44 rfl (ts := [2]) rfl (by kernel_rfl) (by simp) ?_; simp (config := { dsimp := false }) only [go_sem, reduceIte, Nat.reduceEqDiff, reduceCtorEq, Nat.reduceAdd, Nat.reduceMul, Int.reduceToNat, Int.reduceLE, Int.reduceLT, Int.reduceEq, Int.reduceNe, Nat.reduceLeDiff, Int.reducePow, Nat.reducePow, Nat.reduceLT, Nat.reduceSub, Nat.reduceMod, Nat.reduceDiv, T.ag_3, T.fo_32_0, T.fo_32_1, T.ib_3, T.ip_3, init_a, spE])
  simp only [badSp]
  refine ⟨fun h1 => ?_, fun h1 => ?_⟩ <;> simp <;> omega
theorem check2_ph (h : Heap) (x : Sp) (b p : Nat) (o o' : Own) (wv : Value) (s : St) (hb : h.get b = .live (.cells [.pointer (some ⟨p, 0, none⟩)] o)) (hp : h.get p = .live (.cells (stC wv s) o')) (hbn : b < h.next) (hpn : p < h.next) :
    @CallsH Try.prog 45 #[.agg (spE.enc x).toArray, .pointer (some ⟨b, 0, none⟩)] h ⟨fun u _ => u = .bool (farSp s.top x)⟩ := by
  have n1 : (b = h.next) = False := eq_false (by omega)
  have n2 : (p = h.next) = False := eq_false (by omega)
  (refine calls_of_vc [] hm Try.func45 rfl (ts := [3]) rfl (by kernel_rfl) (by simp) ?_; simp (config := { dsimp := false }) only [go_sem, reduceIte, Nat.reduceEqDiff, reduceCtorEq, Nat.reduceAdd, Nat.reduceMul, Int.reduceToNat, Int.reduceLE, Int.reduceLT, Int.reduceEq, Int.reduceNe, Nat.reduceLeDiff, Int.reducePow, Nat.reducePow, Nat.reduceLT, Nat.reduceSub, Nat.reduceMod, Nat.reduceDiv, T.ag_24, T.ag_3, T.fo_32_1, T.fo_63_1, T.ib_3, T.ip_3, init_a, spE, hb, hp, stC, n1, n2])
  rfl
def checkS (s : St) (l : List Sp) : Int := if l.any badSp then 1 else if l.any (farSp s.top) then 7 else 0
theorem check_ph (h : Heap) (p : Nat) (o : Own) (wv v : Value) (s : St) (l : List Sp) (hp : h.get p = .live (.cells (stC wv s) o)) (hpn : p < h.next) (hr : RowIn spE h v l) (hlt : ∀ A n st, v = .slice (some A) n st → A.block < h.next) (hl : l.length < 9223372036854775807) :
    @CallsH Try.prog 28 #[.pointer (some ⟨p, 0, none⟩), v] h ⟨fun u _ => u = .int .i64 (checkS s l)⟩ := by
  have n2 : (p = h.next) = False := eq_false (by omega)
  (refine calls_of_vc [] hm Try.func28 rfl (ts := [4]) rfl (by kernel_rfl) (by simp) ?_; simp (config := { dsimp := false }) only [go_sem, reduceIte, Nat.reduceEqDiff, reduceCtorEq, Nat.reduceAdd, Nat.reduceMul, Int.reduceToNat, Int.reduceLE, Int.reduceLT, Int.reduceEq, Int.reduceNe, Nat.reduceLeDiff, Int.reducePow, Nat.reducePow, Nat.reduceLT, Nat.reduceSub, Nat.reduceMod, Nat.reduceDiv, T.gf_31, T.gf_44, init_a])
  have hr1 : RowIn spE (h.alloc (.cells [.pointer (some ⟨p, 0, none⟩)] .own)) v l := hr.upd fun A n st e => by
    have := hlt A n st e
    rw [get_alloc, if_neg (by omega)]
  refine (ContainsSp_ph _ v l 44 #[] badSp hl (by kernel_rfl) hr1 (fun x _ => check1_ph _ x)).mono fun u H ⟨hu, hH⟩ => ?_
  subst hu hH
  cases hb : l.any badSp with
  | true =>
    simp (config := { dsimp := false }) only [go_sem, reduceIte, Nat.reduceEqDiff, reduceCtorEq, Nat.reduceAdd, Nat.reduceMul, Int.reduceToNat, Int.reduceLE, Int.reduceLT, Int.reduceEq, Int.reduceNe, Nat.reduceLeDiff, Int.reducePow, Nat.reducePow, Nat.reduceLT, Nat.reduceSub, Nat.reduceMod, Nat.reduceDiv, T.gf_31, T.gf_44, hb]
    simp [checkS, hb]
  | false =>
    simp (config := { dsimp := false }) only [go_sem, reduceIte, Nat.reduceEqDiff, reduceCtorEq, Nat.reduceAdd, Nat.reduceMul, Int.reduceToNat, Int.reduceLE, Int.reduceLT, Int.reduceEq, Int.reduceNe, Nat.reduceLeDiff, Int.reducePow, Nat.reducePow, Nat.reduceLT, Nat.reduceSub, Nat.reduceMod, Nat.reduceDiv, T.gf_31, T.gf_44, hb]
    refine (ContainsSp_ph _ v l 45 #[.pointer (some ⟨h.next, 0, none⟩)] (farSp s.top) hl (by kernel_rfl) hr1 (fun x _ => check2_ph _ x h.next p _ _ wv s (by rw [get_ro, get_alloc, if_pos rfl]; rfl) (by rw [get_ro, get_alloc, if_neg (by omega), hp, lock_live', lock_cells]) (by rw [next_ro, next_alloc]; omega) (by rw [next_ro, next_alloc]; omega))).mono fun u H ⟨hu, hH⟩ => ?_
    subst hu hH
    cases hb2 : l.any (farSp s.top) with
    | true =>
      simp (config := { dsimp := false }) only [go_sem, reduceIte, Nat.reduceEqDiff, reduceCtorEq, Nat.reduceAdd, Nat.reduceMul, Int.reduceToNat, Int.reduceLE, Int.reduceLT, Int.reduceEq, Int.reduceNe, Nat.reduceLeDiff, Int.reducePow, Nat.reducePow, Nat.reduceLT, Nat.reduceSub, Nat.reduceMod, Nat.reduceDiv, T.gf_31, T.gf_44, hb2]
      simp [checkS, hb, hb2]
    | false =>
      simp (config := { dsimp := false }) only [go_sem, reduceIte, Nat.reduceEqDiff, reduceCtorEq, Nat.reduceAdd, Nat.reduceMul, Int.reduceToNat, Int.reduceLE, Int.reduceLT, Int.reduceEq, Int.reduceNe, Nat.reduceLeDiff, Int.reducePow, Nat.reducePow, Nat.reduceLT, Nat.reduceSub, Nat.reduceMod, Nat.reduceDiv, T.gf_31, T.gf_44, hb2]
      simp [checkS, hb, hb2]
end Ph
