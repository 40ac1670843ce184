import Derived.Test.YthghohhaagkbnaaC10
set_option maxRecDepth 100000
set_option maxHeartbeats 4000000
set_option linter.unusedSimpArgs false
set_option linter.unusedVariables false
namespace Ph
open Go Go.Proofs
attribute [local irreducible] Value.cells
attribute [local go_sem ↓] y_move y_assign y_pick y_nil y_bin y_un y_fa y_field y_ext y_ia y_ix y_slice y_build y_mf y_rg y_nx y_en y_mm y_lk y_mu y_del y_load y_len y_min y_max y_conv y_bs y_mk y_alloc y_box y_store y_clear y_app y_callf y_callt s_move s_assign s_pick s_nil s_bin s_un s_fa s_field s_ext s_ia s_ix s_slice s_conv s_build s_bs s_mf s_alloc s_box s_rg s_nx s_en s_mm s_lk s_mu s_del s_load s_store s_len s_clear s_min s_max s_app s_call q_call q_move q_assign q_pick q_nil q_bin q_un q_fa q_field q_ext q_ia q_ix q_slice q_conv q_build q_mf q_lk q_load q_len q_min q_max l_nil l_move l_assign l_pick l_nilc l_bin l_un l_fa l_field l_ext l_ia l_ix l_slice l_conv l_build l_mf l_lk l_load l_len l_min l_max l_call put_eq putN_eq o_nil o_plain o_gate v_nil v_plain v_gate vc_skip vc_region vc_seq vc_cond vc_block vc_loop vc_rf vc_exit vc_ret blk_normal blk_ret blk_exit on_normal on_ret on_exit vc_drawn draw_q s_mk l_bs l_mk l_rg l_nx l_en l_mm l_mu l_del l_alloc l_box l_store l_app l_clear pl_done pl_takeS pl_take pl_alt pl_stop one_plain one_gate
attribute [local go_sem] clear_nil clear_sl onAgg_a onTuple_t onFn_f onFn_y onFunc_f c_int c_nil c_sl c_str sl_sl sl_nil sl_str ix_str ix_agg n_nil n_sl n_str app_eq k_nil k_sl len_sl len_str len_mn len_m onMap_m onIter_i rg_n rg_m nx_p en_p lk_n lk_m up_m setM_n setM_s del_n del_m kt_s kt_i upd_some upd_none ev_tmp ev_const ev_func rd_some gdst_eq otmp_t otmp_c get_put get_alloc next_put next_alloc get_app next_app init_a resV1 resV2 onPtr_ptr onBool_b onInt_i onSlice_s onSome_s onCells_c lett_eq gate_tt gate_tf gate_ff gate_ft gate_dt gate_df also_eq bin un minmax io_none io_some bo_none bo_some partOf List.getElem?_cons_zero List.getElem?_cons_succ List.getElem?_toArray Option.map_some Option.map_none Option.bind_some ne_eq not_true_eq_false not_false_eq_true false_implies true_implies and_true true_and and_self Bool.false_eq_true Nat.zero_add Nat.add_zero List.size_toArray List.length_cons List.length_nil List.map_toArray List.map_cons List.map_nil Array.getD_eq_getD_getElem? Option.getD_some Bool.not_true Bool.not_false Bool.not_eq_true Option.isNone_some Option.isNone_none List.append_toArray List.append_nil List.nil_append List.cons_append decide_true decide_false in_nil in_cons Bool.and_false Bool.and_true Bool.or_false Bool.true_or Bool.false_or get_mask next_mask get_unmask next_unmask ac_move ac_assign ac_pick ac_nil ac_bin ac_un ac_fa ac_field ac_ext ac_ia ac_ix ac_slice ac_build ac_mf ac_call ac_len ac_lk ac_min ac_max accM_m accM_n accM_s accM_t ac_load ac_conv accP_p accS_s accS_n accS_i accS_t fixed_ro fixed_lock fixed_own get_ro next_ro lock_live' lock_cells List.mem_cons List.not_mem_nil or_false false_or or_true true_or and_false false_and IntKind.bits Int.natCast_zero Int.natCast_one size_str data_str list_str mk_str ext_str app_str bytes_str w_byte w_byteu Int.toNat_natCast Int.toNat_zero Int.toNat_one Nat.sub_zero ge_iff_le gt_iff_lt Nat.le_refl Int.le_refl List.drop_zero Int.ofNat_eq_natCast Int.natCast_nonneg Int.sub_zero oc_int oc_bool oc_str oc_ptr oc_sl oc_map oc_func List.set_cons_zero List.set_cons_succ Nat.mul_one List.all_cons List.all_nil Bool.and_self res_nil res_tmp res_cell tup_one tup_two tup_nil fill_nil repl_zero cells_agg List.append_eq List.toList_toArray Nat.zero_mul Nat.one_mul repl_one repl_two onSome_build fill_cons onSome_lit splice_eq cells_int cells_bool cells_str cells_ptr cells_sl cells_map cells_func loadK_n loadK_s load_k storeK_n storeK_s store_k all_arr List.take_zero List.take_succ_cons List.drop_succ_cons List.take_nil List.drop_nil lk_own lk_ro lk_lock lk_lk fixed_lk gate_nt gate_nf gate3_b gate3_u undef Bool.true_and Bool.false_and nx_l nx_r nx_lt put_put resV0
/-! The document's cache: a list. -/
theorem ri (n : Int) : (Value.int .i64 n).oneCell' = true := rfl
def refE : Enc Th := ⟨3, fun x => [x.key, x.val, .int .i64 x.goes], fun _ => rfl, fun x => by simp [x.one.1, x.one.2]; exact ri _⟩
theorem refE_k : refE.k = 3 := rfl
theorem refE_enc (x : Th) : refE.enc x = [x.key, x.val, .int .i64 x.goes] := rfl
structure RfR (h : Heap) (p : Nat) (D : List Nat) (v : Value) (c : Ca) : Prop where
  lt : p < h.next
  ne : p ∉ D
  at_ : h.get p = .live (.cells [v, .int .i64 c.most, .int .i64 c.now] .own)
  row : OwnRow refE h v D c.l
  sm : c.l.length ≤ 20000
theorem RfR.upd {h h' : Heap} {p : Nat} {D F : List Nat} {v : Value} {c : Ca} (hC : RfR h p D v c) (hu : Upd h h' F) (hp : p ∉ F) (hi : ∀ d ∈ D, d ∉ F) : RfR h' p D v c :=
  ⟨Nat.lt_of_lt_of_le hC.lt hu.1, hC.ne, (hu.2 p hC.lt hp).trans hC.at_, hC.row.upd hu hi, hC.sm⟩
/-- one thing of a row -/
theorem row_th {h : Heap} {v : Value} {l : List Th} (hr : RowIn refE h v l) {i : Nat} {x : Th} (hx : l[i]? = some x) : ∃ q off vs o, v = .slice (some ⟨q, off, none⟩) l.length 3 ∧ h.get q = .live (.cells vs o) ∧ List.take 3 (List.drop (off + i * 3) vs) = [x.key, x.val, .int .i64 x.goes] ∧ off + i * 3 + 3 ≤ vs.length ∧ vs[off + i * 3]? = some x.key ∧ vs[off + i * 3 + 1]? = some x.val ∧ vs[off + i * 3 + 2]? = some (.int .i64 x.goes) := by
  rcases hr with ⟨_, hnil⟩ | ⟨q, off, vs, o, hv, hq, hR⟩
  · rw [hnil] at hx; simp at hx
  · have h1 := hR.at hx
    exact ⟨q, off, vs, o, hv, hq, h1.1, h1.2, hR.cell hx (j := 0) (by decide), hR.cell hx (j := 1) (by decide), hR.cell hx (j := 2) (by decide)⟩
theorem take_snoc {α : Type} {l : List α} {i : Nat} {x : α} (h : l[i]? = some x) : l.take (i + 1) = l.take i ++ [x] := by
  obtain ⟨hi, rfl⟩ := List.getElem?_eq_some_iff.1 h
  exact List.take_succ_eq_append_getElem hi
theorem filter_snoc {α : Type} (p : α → Bool) {l : List α} {i : Nat} {x : α} (h : l[i]? = some x) : (l.take (i + 1)).filter p = (l.take i).filter p ++ if p x then [x] else [] := by
  rw [take_snoc h, List.filter_append]; simp [List.filter_cons]
theorem Rtime_ph (h : Heap) (p : Nat) (D : List Nat) (v : Value) (c : Ca) (at_ : Int) (hC : RfR h p D v c) :
    @CallsH Try.prog 65 #[.pointer (some ⟨p, 0, none⟩), .int .i64 at_] h ⟨fun _ H => ∃ D' v', RfR H p D' v' (timeC c at_) ∧ (∀ d ∈ D', h.next ≤ d) ∧ Upd h H [p]⟩ := by
  obtain ⟨hpn, hpD, hp, hr, hsm⟩ := hC
  have ho := hr.row.one
  (refine calls_of_vc [] hm Try.func65 rfl (ts := []) rfl (by kernel_rfl) (by simp) ?_; simp (config := { dsimp := false, maxSteps := 10000000 }) (disch := omega) only [go_sem, reduceIte, Nat.reduceEqDiff, reduceCtorEq, Nat.reduceAdd, Nat.reduceMul, Int.reduceToNat, Int.reduceLE, Int.reduceLT, Int.reduceEq, Int.reduceNe, Nat.reduceLeDiff, Int.reducePow, Nat.reducePow, Nat.reduceLT, Nat.reduceSub, Nat.reduceMod, Nat.reduceDiv, slot_neg, slot_pos, T.ag_3, T.ag_71, T.ag_82, T.eb_71, T.es_71, T.ez_71, T.fo_77_0, T.fo_77_2, T.fo_82_2, T.ib_3, T.ii_71, T.ip_3, T.s8_71, T.sl_71, T.st_71, T.un_71, init_a, hp])
  have e : (if c.now < if 1099511627776 < at_ then 1099511627776 else at_ then if 1099511627776 < at_ then 1099511627776 else at_ else c.now) = nowC c at_ := by
    unfold nowC farC; omega
  rw [e]
  obtain ⟨H1, hH1⟩ : ∃ H1, h.put p (.live (.cells [v, .int .i64 c.most, .int .i64 (nowC c at_)] .own)) = H1 := ⟨_, rfl⟩
  rw [hH1]
  have g1 : H1.get p = .live (.cells [v, .int .i64 c.most, .int .i64 (nowC c at_)] .own) := by rw [← hH1, get_put, if_pos rfl]
  have hU1 : Upd h H1 [p] := by rw [← hH1]; exact (Upd.refl _ _).put (.inl (by simp))
  clear hH1
  obtain ⟨N, hN⟩ : ∃ N, nowC c at_ = N := ⟨_, rfl⟩
  rw [hN] at g1
  obtain ⟨f, hf⟩ : ∃ f : Th → Bool, f = fun x => !decide (x.goes ≤ N) := ⟨_, rfl⟩
  refine loop_intro [] hm (fun r H => ∃ (i : Nat) (u : Value) (D' : List Nat), i ≤ c.l.length ∧ r 0 = .pointer (some ⟨p, 0, none⟩) ∧ r 4 = u ∧ r 5 = .int .i64 i ∧ OwnRow refE H u D' ((c.l.take i).filter f) ∧ H.get p = .live (.cells [v, .int .i64 c.most, .int .i64 N] .own) ∧ (∀ d ∈ D', h.next ≤ d) ∧ Upd h H [p]) (fun r _ => match r 5 with | .int _ i => c.l.length - i.toNat | _ => 0) ?_ ?_
  · exact ⟨0, _, [], by omega, by simp [upd, initR], rfl, by simp [upd], by simpa [upd] using OwnRow.nil _, g1, by simp, hU1⟩
  · rintro r H ⟨i, u, D', hi, q0, q4, q5, hO, hg, hD', hU⟩
    have hr1 := hr.upd hU fun d hd => by simp; exact fun e => hpD (e ▸ hd)
    obtain ⟨A, st, hv⟩ := hr1.form
    by_cases hlt : i < c.l.length
    · have hlt' : ((i : Int) < (c.l.length : Int)) = True := eq_true (by omega)
      have hx : c.l[i]? = some c.l[i] := List.getElem?_eq_getElem hlt
      have w1 : IntKind.i64.wrap ((i : Int) + 1) = ((i + 1 : Nat) : Int) := by rw [i64wrap] <;> omega
      obtain ⟨q, off, vs, o, hv', hq, y0, y1, yk, yv, yg⟩ := row_th hr1.row hx
      have hfs := filter_snoc f hx
      have hle := List.length_filter_le f (c.l.take i)
      rw [List.length_take] at hle
      generalize c.l[i] = x at *
      have hx1 := x.one
      by_cases c1 : x.goes > N
      · have c1' : (N < x.goes) = True := eq_true c1
        rw [show f x = true by rw [hf]; simp; omega] at hfs
        have qn : (q = H.next) = False := eq_false fun e => by have h1 := hr1.lt; rcases hr1 with ⟨e1, _⟩ | ⟨q2, _, _, rfl, h2, e1, _⟩ <;> rw [hv'] at e1 <;> cases e1 <;> omega
        simp (config := { dsimp := false, maxSteps := 10000000 }) (disch := omega) only [go_sem, reduceIte, Nat.reduceEqDiff, reduceCtorEq, Nat.reduceAdd, Nat.reduceMul, Int.reduceToNat, Int.reduceLE, Int.reduceLT, Int.reduceEq, Int.reduceNe, Nat.reduceLeDiff, Int.reducePow, Nat.reducePow, Nat.reduceLT, Nat.reduceSub, Nat.reduceMod, Nat.reduceDiv, slot_neg, slot_pos, T.ag_3, T.ag_71, T.ag_82, T.eb_71, T.es_71, T.ez_71, T.fo_77_0, T.fo_77_2, T.fo_82_2, T.ib_3, T.ii_71, T.ip_3, T.s8_71, T.sl_71, T.st_71, T.un_71, q0, q4, q5, hg, hv', hlt', hq, y0, yg, c1', hx1.1, hx1.2]
        have hU2 : Upd H (H.alloc (.cells [x.key, x.val, .int .i64 x.goes] .own)) [] := Upd.alloc _ _ _
        refine ⟨y1, app_own (E := refE) (ns := [x]) (hO.upd hU2 (by simp)) rfl (by simp [Enc.flat, refE]) rfl (by simp only [List.length_singleton]; omega) fun u3 H3 D3 hO3 hU3 hD3 => ?_⟩
        have hpD' : p ∉ D' := fun hd => by have := hD' p hd; omega
        have n0 := hU.1
        have n1 := hU2.1
        have g3 := (hU3.2 p (by omega) hpD').trans ((hU2.2 p (by omega) (by simp)).trans hg)
        have ho := hO3.row.one
        simp (config := { dsimp := false, maxSteps := 10000000 }) (disch := omega) only [go_sem, reduceIte, Nat.reduceEqDiff, reduceCtorEq, Nat.reduceAdd, Nat.reduceMul, Int.reduceToNat, Int.reduceLE, Int.reduceLT, Int.reduceEq, Int.reduceNe, Nat.reduceLeDiff, Int.reducePow, Nat.reducePow, Nat.reduceLT, Nat.reduceSub, Nat.reduceMod, Nat.reduceDiv, slot_neg, slot_pos, T.ag_3, T.ag_71, T.ag_82, T.eb_71, T.es_71, T.ez_71, T.fo_77_0, T.fo_77_2, T.fo_82_2, T.ib_3, T.ii_71, T.ip_3, T.s8_71, T.sl_71, T.st_71, T.un_71, q0, q5, w1, ho.1, ho.2]
        refine ⟨⟨i + 1, u3, D3, hlt, rfl, rfl, by rw [hfs]; exact hO3, g3, fun d hd => ?_, (hU.trans hU2 (by simp)).trans hU3 fun d hd => .inr (hD' d hd)⟩, by omega⟩
        rcases hD3 d hd with h1 | h1
        · exact hD' d h1
        · omega
      · have c1' : (N < x.goes) = False := eq_false c1
        rw [show f x = false by rw [hf]; simp; omega] at hfs
        simp only [Bool.false_eq_true, if_false, List.append_nil] at hfs
        simp (config := { dsimp := false, maxSteps := 10000000 }) (disch := omega) only [go_sem, reduceIte, Nat.reduceEqDiff, reduceCtorEq, Nat.reduceAdd, Nat.reduceMul, Int.reduceToNat, Int.reduceLE, Int.reduceLT, Int.reduceEq, Int.reduceNe, Nat.reduceLeDiff, Int.reducePow, Nat.reducePow, Nat.reduceLT, Nat.reduceSub, Nat.reduceMod, Nat.reduceDiv, slot_neg, slot_pos, T.ag_3, T.ag_71, T.ag_82, T.eb_71, T.es_71, T.ez_71, T.fo_77_0, T.fo_77_2, T.fo_82_2, T.ib_3, T.ii_71, T.ip_3, T.s8_71, T.sl_71, T.st_71, T.un_71, q0, q5, hg, hv', hlt', hq, yg, c1', w1]
        exact ⟨⟨i + 1, u, D', hlt, q4, rfl, by rw [hfs]; exact hO, hD', hU⟩, by omega⟩
    · have hlt' : ((i : Int) < (c.l.length : Int)) = False := eq_false (by omega)
      obtain rfl : i = c.l.length := by omega
      rw [List.take_length] at hO
      have ho := hO.row.one
      simp (config := { dsimp := false, maxSteps := 10000000 }) (disch := omega) only [go_sem, reduceIte, Nat.reduceEqDiff, reduceCtorEq, Nat.reduceAdd, Nat.reduceMul, Int.reduceToNat, Int.reduceLE, Int.reduceLT, Int.reduceEq, Int.reduceNe, Nat.reduceLeDiff, Int.reducePow, Nat.reducePow, Nat.reduceLT, Nat.reduceSub, Nat.reduceMod, Nat.reduceDiv, slot_neg, slot_pos, T.ag_3, T.ag_71, T.ag_82, T.eb_71, T.es_71, T.ez_71, T.fo_77_0, T.fo_77_2, T.fo_82_2, T.ib_3, T.ii_71, T.ip_3, T.s8_71, T.sl_71, T.st_71, T.un_71, q0, q4, q5, hg, hv, hlt', ho.1, ho.2]
      have hpD' : p ∉ D' := fun hd => by have := hD' p hd; omega
      refine ⟨D', u, ⟨Nat.lt_of_lt_of_le hpn hU.1, hpD', ?_, ?_, ?_⟩, hD', hU.put (.inl (by simp))⟩
      · rw [get_put, if_pos rfl, ← hN]; rfl
      · refine OwnRow.keep (h := H) ?_ (Nat.le_refl _) fun d hd => by rw [get_put, if_neg (fun e => by subst e; exact hpD' hd)]
        rw [hf, ← hN] at hO; exact hO
      · exact Nat.le_trans (List.length_filter_le _ _) hsm
theorem keq_str (a b : List UInt8) : keq (.string (str a)) (.string (str b)) = decide (a = b) := by
  unfold keq sameK
  by_cases h : a = b
  · subst h; simp
  · have : ¬ str a = str b := fun e => h (str_inj.1 e)
    simp [h, this]
theorem Rwithout_ph (h : Heap) (p : Nat) (D : List Nat) (v : Value) (c : Ca) (k : List UInt8) (hC : RfR h p D v c) (hkd : ∀ x ∈ c.l, isStrV x.key) :
    @CallsH Try.prog 66 #[.pointer (some ⟨p, 0, none⟩), .string (str k)] h ⟨fun u H => u = .bool (decide ((without c (.string (str k))).l.length < c.l.length)) ∧ ∃ D' v', RfR H p D' v' (without c (.string (str k))) ∧ (∀ d ∈ D', h.next ≤ d) ∧ Upd h H [p]⟩ := by
  obtain ⟨hpn, hpD, hp, hr, hsm⟩ := hC
  have ho := hr.row.one
  (refine calls_of_vc [] hm Try.func66 rfl (ts := [4]) rfl (by kernel_rfl) (by simp) ?_; simp (config := { dsimp := false, maxSteps := 10000000 }) (disch := omega) only [go_sem, reduceIte, Nat.reduceEqDiff, reduceCtorEq, Nat.reduceAdd, Nat.reduceMul, Int.reduceToNat, Int.reduceLE, Int.reduceLT, Int.reduceEq, Int.reduceNe, Nat.reduceLeDiff, Int.reducePow, Nat.reducePow, Nat.reduceLT, Nat.reduceSub, Nat.reduceMod, Nat.reduceDiv, slot_neg, slot_pos, T.ag_71, T.ag_82, T.ag_9, T.eb_71, T.es_71, T.ez_71, T.fo_77_0, T.fo_82_0, T.ib_3, T.ib_9, T.ii_71, T.ip_3, T.ip_9, T.s8_71, T.sl_71, T.st_71, T.un_71, init_a, hp])
  obtain ⟨f, hf⟩ : ∃ f : Th → Bool, f = fun x => !keq (.string (str k)) x.key := ⟨_, rfl⟩
  refine loop_intro [] hm (fun r H => ∃ (i : Nat) (u : Value) (D' : List Nat), i ≤ c.l.length ∧ r 0 = .pointer (some ⟨p, 0, none⟩) ∧ r 1 = .string (str k) ∧ r 5 = u ∧ r 6 = .int .i64 i ∧ OwnRow refE H u D' ((c.l.take i).filter f) ∧ H.get p = .live (.cells [v, .int .i64 c.most, .int .i64 c.now] .own) ∧ (∀ d ∈ D', h.next ≤ d) ∧ Upd h H [p]) (fun r _ => match r 6 with | .int _ i => c.l.length - i.toNat | _ => 0) ?_ ?_
  · exact ⟨0, _, [], by omega, by simp [upd, initR], by simp [upd, initR], rfl, by simp [upd], by simpa [upd] using OwnRow.nil _, hp, by simp, Upd.refl _ _⟩
  · rintro r H ⟨i, u, D', hi, q0, q1, q4, q5, hO, hg, hD', hU⟩
    have hr1 := hr.upd hU fun d hd => by simp; exact fun e => hpD (e ▸ hd)
    obtain ⟨A, st, hv⟩ := hr1.form
    by_cases hlt : i < c.l.length
    · have hlt' : ((i : Int) < (c.l.length : Int)) = True := eq_true (by omega)
      have hx : c.l[i]? = some c.l[i] := List.getElem?_eq_getElem hlt
      have w1 : IntKind.i64.wrap ((i : Int) + 1) = ((i + 1 : Nat) : Int) := by rw [i64wrap] <;> omega
      obtain ⟨q, off, vs, o, hv', hq, y0, y1, yk, yv, yg⟩ := row_th hr1.row hx
      have hfs := filter_snoc f hx
      have hle := List.length_filter_le f (c.l.take i)
      rw [List.length_take] at hle
      obtain ⟨s, hs⟩ := hkd c.l[i] (List.getElem_mem _)
      obtain ⟨m, rfl⟩ := str_ex s
      generalize c.l[i] = x at *
      have hx1 := x.one
      have hfx : f x = !decide (k = m) := by rw [hf]; simp only; rw [hs, keq_str]
      by_cases c1 : k = m
      · have c1' : (m = k) = True := eq_true c1.symm
        rw [hfx, decide_eq_true c1] at hfs
        simp only [Bool.not_true, Bool.false_eq_true, if_false, List.append_nil] at hfs
        rw [hs] at yk
        simp (config := { dsimp := false, maxSteps := 10000000 }) (disch := omega) only [go_sem, reduceIte, Nat.reduceEqDiff, reduceCtorEq, Nat.reduceAdd, Nat.reduceMul, Int.reduceToNat, Int.reduceLE, Int.reduceLT, Int.reduceEq, Int.reduceNe, Nat.reduceLeDiff, Int.reducePow, Nat.reducePow, Nat.reduceLT, Nat.reduceSub, Nat.reduceMod, Nat.reduceDiv, slot_neg, slot_pos, T.ag_71, T.ag_82, T.ag_9, T.eb_71, T.es_71, T.ez_71, T.fo_77_0, T.fo_82_0, T.ib_3, T.ib_9, T.ii_71, T.ip_3, T.ip_9, T.s8_71, T.sl_71, T.st_71, T.un_71, q0, q1, q5, hg, hv', hlt', hq, yk, c1', w1, list_str]
        exact ⟨⟨i + 1, u, D', hlt, q4, rfl, by rw [hfs]; exact hO, hD', hU⟩, by omega⟩
      · have c1' : (m = k) = False := eq_false fun e => c1 e.symm
        rw [hfx, decide_eq_false c1] at hfs
        simp only [Bool.not_false, if_true] at hfs
        have qn : (q = H.next) = False := eq_false fun e => by have h1 := hr1.lt; rcases hr1 with ⟨e1, _⟩ | ⟨q2, _, _, rfl, h2, e1, _⟩ <;> rw [hv'] at e1 <;> cases e1 <;> omega
        rw [hs] at yk y0 hx1
        simp (config := { dsimp := false, maxSteps := 10000000 }) (disch := omega) only [go_sem, reduceIte, Nat.reduceEqDiff, reduceCtorEq, Nat.reduceAdd, Nat.reduceMul, Int.reduceToNat, Int.reduceLE, Int.reduceLT, Int.reduceEq, Int.reduceNe, Nat.reduceLeDiff, Int.reducePow, Nat.reducePow, Nat.reduceLT, Nat.reduceSub, Nat.reduceMod, Nat.reduceDiv, slot_neg, slot_pos, T.ag_71, T.ag_82, T.ag_9, T.eb_71, T.es_71, T.ez_71, T.fo_77_0, T.fo_82_0, T.ib_3, T.ib_9, T.ii_71, T.ip_3, T.ip_9, T.s8_71, T.sl_71, T.st_71, T.un_71, q0, q1, q4, q5, hg, hv', hlt', hq, y0, yk, c1', hx1.1, hx1.2, list_str]
        have hU2 : Upd H (H.alloc (.cells [.string (str m), x.val, .int .i64 x.goes] .own)) [] := Upd.alloc _ _ _
        refine ⟨y1, app_own (E := refE) (ns := [x]) (hO.upd hU2 (by simp)) rfl (by simp [Enc.flat, refE, hs]) rfl (by simp only [List.length_singleton]; omega) fun u3 H3 D3 hO3 hU3 hD3 => ?_⟩
        have hpD' : p ∉ D' := fun hd => by have := hD' p hd; omega
        have n0 := hU.1
        have n1 := hU2.1
        have g3 := (hU3.2 p (by omega) hpD').trans ((hU2.2 p (by omega) (by simp)).trans hg)
        have ho := hO3.row.one
        simp (config := { dsimp := false, maxSteps := 10000000 }) (disch := omega) only [go_sem, reduceIte, Nat.reduceEqDiff, reduceCtorEq, Nat.reduceAdd, Nat.reduceMul, Int.reduceToNat, Int.reduceLE, Int.reduceLT, Int.reduceEq, Int.reduceNe, Nat.reduceLeDiff, Int.reducePow, Nat.reducePow, Nat.reduceLT, Nat.reduceSub, Nat.reduceMod, Nat.reduceDiv, slot_neg, slot_pos, T.ag_71, T.ag_82, T.ag_9, T.eb_71, T.es_71, T.ez_71, T.fo_77_0, T.fo_82_0, T.ib_3, T.ib_9, T.ii_71, T.ip_3, T.ip_9, T.s8_71, T.sl_71, T.st_71, T.un_71, q0, q1, q5, w1, ho.1, ho.2]
        refine ⟨⟨i + 1, u3, D3, hlt, rfl, rfl, by rw [hfs]; exact hO3, g3, fun d hd => ?_, (hU.trans hU2 (by simp)).trans hU3 fun d hd => .inr (hD' d hd)⟩, by omega⟩
        rcases hD3 d hd with h1 | h1
        · exact hD' d h1
        · omega
    · have hlt' : ((i : Int) < (c.l.length : Int)) = False := eq_false (by omega)
      obtain rfl : i = c.l.length := by omega
      rw [List.take_length] at hO
      have ho := hO.row.one
      obtain ⟨A2, st2, hv2⟩ := hO.form
      rw [hv2] at q4 ho
      simp (config := { dsimp := false, maxSteps := 10000000 }) (disch := omega) only [go_sem, reduceIte, Nat.reduceEqDiff, reduceCtorEq, Nat.reduceAdd, Nat.reduceMul, Int.reduceToNat, Int.reduceLE, Int.reduceLT, Int.reduceEq, Int.reduceNe, Nat.reduceLeDiff, Int.reducePow, Nat.reducePow, Nat.reduceLT, Nat.reduceSub, Nat.reduceMod, Nat.reduceDiv, slot_neg, slot_pos, T.ag_71, T.ag_82, T.ag_9, T.eb_71, T.es_71, T.ez_71, T.fo_77_0, T.fo_82_0, T.ib_3, T.ib_9, T.ii_71, T.ip_3, T.ip_9, T.s8_71, T.sl_71, T.st_71, T.un_71, q0, q4, q5, hg, hv, hlt', ho.1, ho.2]
      have hpD' : p ∉ D' := fun hd => by have := hD' p hd; omega
      refine ⟨?_, D', u, ⟨Nat.lt_of_lt_of_le hpn hU.1, hpD', ?_, ?_, ?_⟩, hD', hU.put (.inl (by simp))⟩
      · rw [hf]; simp [without]
      · rw [get_put, if_pos rfl, hv2]; rfl
      · refine OwnRow.keep (h := H) ?_ (Nat.le_refl _) fun d hd => by rw [get_put, if_neg (fun e => by subst e; exact hpD' hd)]
        rw [hf] at hO; exact hO
      · exact Nat.le_trans (List.length_filter_le _ _) hsm
end Ph
