import Derived.Test.YtliblomkhapibaaL5
set_option maxRecDepth 100000
set_option maxHeartbeats 1000000
set_option linter.unusedSimpArgs false
set_option linter.unusedVariables false
namespace Ph
open Go Go.Proofs
attribute [local irreducible] Value.cells
attribute [local go_sem ↓] y_move y_assign y_pick y_nil y_bin y_un y_fa y_field y_ext y_ia y_ix y_slice y_build y_mf y_load y_len y_min y_max y_conv y_bs y_mk y_alloc y_box y_store y_clear y_app y_callf y_callt s_move s_assign s_pick s_nil s_bin s_un s_fa s_field s_ext s_ia s_ix s_slice s_conv s_build s_bs s_mf s_alloc s_box s_load s_store s_len s_clear s_min s_max s_app s_call q_call q_move q_assign q_pick q_nil q_bin q_un q_fa q_field q_ext q_ia q_ix q_slice q_conv q_build q_mf q_load q_len q_min q_max l_nil l_move l_assign l_pick l_nilc l_bin l_un l_fa l_field l_ext l_ia l_ix l_slice l_conv l_build l_mf l_load l_len l_min l_max l_call put_eq putN_eq o_nil o_plain o_gate v_nil v_plain v_gate vc_skip vc_region vc_seq vc_cond vc_block vc_loop vc_rf vc_exit vc_ret blk_normal blk_ret blk_exit on_normal on_ret on_exit vc_drawn draw_q s_mk l_bs l_mk l_alloc l_box l_store l_app l_clear pl_done pl_takeS pl_take pl_alt pl_stop one_plain one_gate
attribute [local go_sem] clear_nil clear_sl onAgg_a onTuple_t onFn_f onFn_y onFunc_f c_int c_nil c_sl c_str sl_sl sl_nil sl_str ix_str ix_agg n_nil n_sl n_str app_eq k_nil k_sl len_sl len_str upd_some upd_none ev_tmp ev_const ev_func rd_some gdst_eq otmp_t otmp_c get_put get_alloc next_put next_alloc get_app next_app init_a resV1 resV2 onPtr_ptr onBool_b onInt_i onSlice_s onSome_s onCells_c lett_eq gate_tt gate_tf gate_ff gate_ft gate_dt gate_df also_eq bin un minmax io_none io_some bo_none bo_some partOf List.getElem?_cons_zero List.getElem?_cons_succ List.getElem?_toArray Option.map_some Option.map_none Option.bind_some ne_eq not_true_eq_false not_false_eq_true false_implies true_implies and_true true_and and_self Bool.false_eq_true Nat.zero_add Nat.add_zero List.size_toArray List.length_cons List.length_nil List.map_toArray List.map_cons List.map_nil Array.getD_eq_getD_getElem? Option.getD_some Bool.not_true Bool.not_false Bool.not_eq_true Option.isNone_some Option.isNone_none List.append_toArray List.append_nil List.nil_append List.cons_append decide_true decide_false in_nil in_cons Bool.and_false Bool.and_true Bool.or_false Bool.true_or Bool.false_or get_mask next_mask get_unmask next_unmask ac_move ac_assign ac_pick ac_nil ac_bin ac_un ac_fa ac_field ac_ext ac_ia ac_ix ac_slice ac_build ac_mf ac_call ac_load ac_conv accP_p accS_s accS_n accS_i accS_t fixed_ro fixed_lock fixed_own get_ro next_ro lock_live' lock_cells List.mem_cons List.not_mem_nil or_false false_or or_true true_or and_false false_and IntKind.bits Int.natCast_zero Int.natCast_one size_str data_str list_str mk_str ext_str app_str bytes_str w_byte w_byteu Int.toNat_natCast Int.toNat_zero Int.toNat_one Nat.sub_zero ge_iff_le gt_iff_lt Nat.le_refl Int.le_refl List.drop_zero Int.ofNat_eq_natCast Int.natCast_nonneg Int.sub_zero oc_int oc_bool oc_str oc_ptr oc_sl oc_map oc_func List.set_cons_zero List.set_cons_succ Nat.mul_one List.all_cons List.all_nil Bool.and_self res_nil res_tmp res_cell tup_one tup_two tup_nil fill_nil repl_zero cells_agg List.append_eq List.toList_toArray Nat.zero_mul Nat.one_mul repl_one repl_two onSome_build fill_cons onSome_lit splice_eq cells_int cells_bool cells_str cells_ptr cells_sl cells_map cells_func loadK_n loadK_s load_k storeK_n storeK_s store_k all_arr List.take_zero List.take_succ_cons List.drop_succ_cons List.take_nil List.drop_nil lk_own lk_ro lk_lock lk_lk fixed_lk gate_nt gate_nf gate3_b gate3_u undef Bool.true_and Bool.false_and nx_l nx_r nx_lt put_put resV0
/-! What a state holds is within bounds; the small functions. -/
structure Ok (s : St) : Prop where
  len : s.waits.length ≤ 100000
  pk : ∀ x ∈ s.waits, 1 ≤ x.size ∧ x.size ≤ 65535 ∧ 0 ≤ x.at_ ∧ x.at_ ≤ s.now ∧ -1 ≤ x.num ∧ x.num ≤ s.top
  top : -1 ≤ s.top ∧ s.top ≤ 1099511627776
  best : -1 ≤ s.best ∧ s.best ≤ s.top
  now : 0 ≤ s.now ∧ s.now ≤ 1099511627776
  smooth : 0 ≤ s.smooth ∧ s.smooth ≤ 1099511627776
  vary : 0 ≤ s.vary ∧ s.vary ≤ 1099511627776
  least : 0 ≤ s.least ∧ s.least ≤ 1099511627776
  last : 0 ≤ s.last ∧ s.last ≤ 1099511627776
  window : 2400 ≤ s.window ∧ s.window ≤ 2000000000
  mark : 0 ≤ s.mark ∧ s.mark ≤ 1099511627776
  since : -1 ≤ s.since ∧ s.since ≤ s.now
  flight : s.flight = asum s.waits
  tries : 0 ≤ s.tries ∧ s.tries ≤ 5
def timeOk (s : St) (at_ : Int) : Bool := decide (s.now ≤ at_ ∧ at_ ≤ 1099511627776)
theorem time_ph (h : Heap) (p : Nat) (wv : Value) (s : St) (o : Own) (at_ : Int) (hp : h.get p = .live (.cells (stC wv s) o)) :
    @CallsH Try.prog 27 #[.pointer (some ⟨p, 0, none⟩), .int .i64 at_] h ⟨fun u _ => u = .bool (timeOk s at_)⟩ := by
  (refine calls_of_vc [] hm Try.func27 rfl (ts := [4]) rfl (by kernel_rfl) (by simp) ?_; simp (config := { dsimp := false }) only [go_sem, reduceIte, Nat.reduceEqDiff, reduceCtorEq, Nat.reduceAdd, Nat.reduceMul, Int.reduceToNat, Int.reduceLE, Int.reduceLT, Int.reduceEq, Int.reduceNe, Nat.reduceLeDiff, Int.reducePow, Nat.reducePow, Nat.reduceLT, Nat.reduceSub, Nat.reduceMod, Nat.reduceDiv, T.ag_3, T.fo_63_13, T.ib_24, T.ib_3, T.ip_24, T.ip_3, init_a, hp, stC])
  simp only [timeOk]
  refine ⟨fun h1 => ?_, fun h1 => ?_⟩ <;> simp [h1]
theorem timeN_ph (h : Heap) (at_ : Int) : @CallsH Try.prog 27 #[.pointer none, .int .i64 at_] h ⟨fun u _ => u = .bool false⟩ := by
  (refine calls_of_vc [] hm Try.func27 rfl (ts := [4]) rfl (by kernel_rfl) (by simp) ?_; simp (config := { dsimp := false }) only [go_sem, reduceIte, Nat.reduceEqDiff, reduceCtorEq, Nat.reduceAdd, Nat.reduceMul, Int.reduceToNat, Int.reduceLE, Int.reduceLT, Int.reduceEq, Int.reduceNe, Nat.reduceLeDiff, Int.reducePow, Nat.reducePow, Nat.reduceLT, Nat.reduceSub, Nat.reduceMod, Nat.reduceDiv, T.ag_3, T.fo_63_13, T.ib_24, T.ib_3, T.ip_24, T.ip_3, init_a])
def waitT (s : St) : Int := max (9 * max s.smooth s.last / 8) 1
theorem maxg (a b : Int) : (if b > a then b else a) = max a b := by rw [Int.max_def]; split <;> split <;> omega
theorem maxl (a b : Int) : (if a < b then b else a) = max a b := by rw [Int.max_def]; split <;> split <;> omega
theorem minl (a b : Int) : (if b < a then b else a) = min a b := by rw [Int.min_def]; split <;> split <;> omega
theorem tdiv_pos {a b : Int} (ha : 0 ≤ a) : a.tdiv b = a / b := Int.tdiv_eq_ediv_of_nonneg ha
theorem waitT_ph (h : Heap) (p : Nat) (wv : Value) (s : St) (o : Own) (hp : h.get p = .live (.cells (stC wv s) o)) (hs : Ok s) :
    @CallsH Try.prog 50 #[.pointer (some ⟨p, 0, none⟩)] h ⟨fun u _ => u = .int .i64 (waitT s)⟩ := by
  have h1 := hs.smooth
  have h2 := hs.last
  have h3 : 0 ≤ max s.smooth s.last ∧ max s.smooth s.last ≤ 1099511627776 := by omega
  have w1 : IntKind.i64.wrap (9 * max s.smooth s.last) = 9 * max s.smooth s.last := by rw [i64wrap] <;> omega
  have w2 : IntKind.i64.wrap ((9 * max s.smooth s.last).tdiv 8) = 9 * max s.smooth s.last / 8 := by rw [tdiv_pos (by omega), i64wrap] <;> omega
  (refine calls_of_vc [] hm Try.func50 rfl (ts := [2]) rfl (by kernel_rfl) (by simp) ?_; simp (config := { dsimp := false }) only [go_sem, reduceIte, Nat.reduceEqDiff, reduceCtorEq, Nat.reduceAdd, Nat.reduceMul, Int.reduceToNat, Int.reduceLE, Int.reduceLT, Int.reduceEq, Int.reduceNe, Nat.reduceLeDiff, Int.reducePow, Nat.reducePow, Nat.reduceLT, Nat.reduceSub, Nat.reduceMod, Nat.reduceDiv, T.ag_3, T.fo_63_3, T.fo_63_6, T.ib_3, T.ip_3, init_a, hp, stC, maxl, w1, w2])
  rfl
theorem New_ph (h : Heap) : @CallsH Try.prog 9 #[] h ⟨fun u H => u = .pointer (some ⟨h.next, 0, none⟩) ∧ H = h.alloc (.cells (stC (.slice none 0 0) ⟨[], -1, -1, 100, 50, 0, 0, false, 12000, 1099511627776, -1, 0, 0, 0⟩) .own)⟩ := by
  (refine calls_of_vc [] hm Try.func9 rfl (ts := [0]) rfl (by kernel_rfl) (by simp) ?_; simp (config := { dsimp := false }) only [go_sem, reduceIte, Nat.reduceEqDiff, reduceCtorEq, Nat.reduceAdd, Nat.reduceMul, Int.reduceToNat, Int.reduceLE, Int.reduceLT, Int.reduceEq, Int.reduceNe, Nat.reduceLeDiff, Int.reducePow, Nat.reducePow, Nat.reduceLT, Nat.reduceSub, Nat.reduceMod, Nat.reduceDiv, T.pl_63, T.zo_63, init_a, stC])
/-- a state in memory, and what it owns -/
def StR (h : Heap) (p : Nat) (D : List Nat) (s : St) : Prop := p < h.next ∧ p ∉ D ∧ ∃ wv, h.get p = .live (.cells (stC wv s) .own) ∧ OwnRow pkE h wv D s.waits
def MP (h : Heap) (p : Nat) (D : List Nat) (s' : St) (h' : Heap) : Prop := (∃ D', StR h' p D' s' ∧ ∀ d ∈ D', d ∈ D ∨ h.next ≤ d) ∧ Upd h h' (p :: D)
theorem MP.put {h H : Heap} {p : Nat} {D D2 : List Nat} {u : Value} {s' : St} (hpn : p < h.next) (hU : Upd h H (p :: D)) (hO : OwnRow pkE H u D2 s'.waits) (hDp : p ∉ D2) (hD2 : ∀ d ∈ D2, d ∈ D ∨ h.next ≤ d) : MP h p D s' (H.put p (.live (.cells (stC u s') .own))) := by
  refine ⟨⟨D2, ⟨?_, hDp, u, ?_, hO.keep (Nat.le_refl _) fun d hd => ?_⟩, hD2⟩, hU.put (.inl (by simp))⟩
  · rw [next_put]; have := hU.1; omega
  · rw [get_put, if_pos rfl]
  · rw [get_put, if_neg (fun e : d = p => hDp (e ▸ hd))]
def sentOk (s : St) (num size at_ : Int) : Bool := timeOk s at_ && decide (s.top < num ∧ num ≤ 1099511627776 ∧ 1 ≤ size ∧ size ≤ 65535)
def sentS (s : St) (num size : Int) (asks : Bool) (at_ : Int) : St := { s with waits := s.waits ++ [⟨num, size, at_, asks⟩], top := num, now := at_, flight := s.flight + if asks then size else 0 }
theorem Sent_ph (h : Heap) (p : Nat) (D : List Nat) (s : St) (num size at_ : Int) (asks : Bool) (hS : StR h p D s) (hs : Ok s) (hlen : s.waits.length < 100000) :
    @CallsH Try.prog 10 #[.pointer (some ⟨p, 0, none⟩), .int .i64 num, .int .i64 size, .bool asks, .int .i64 at_] h ⟨fun u H => u = .int .i64 (if sentOk s num size at_ then 0 else 1) ∧ MP h p D (if sentOk s num size at_ then sentS s num size asks at_ else s) H⟩ := by
  obtain ⟨hpn, hpD, wv, hp, hO⟩ := hS
  have hw1 := hO.row.one
  (refine calls_of_vc [] hm Try.func10 rfl (ts := [10]) rfl (by kernel_rfl) (by simp) ?_; simp (config := { dsimp := false }) only [go_sem, reduceIte, Nat.reduceEqDiff, reduceCtorEq, Nat.reduceAdd, Nat.reduceMul, Int.reduceToNat, Int.reduceLE, Int.reduceLT, Int.reduceEq, Int.reduceNe, Nat.reduceLeDiff, Int.reducePow, Nat.reducePow, Nat.reduceLT, Nat.reduceSub, Nat.reduceMod, Nat.reduceDiv, T.ag_3, T.ag_61, T.eb_61, T.ez_61, T.fo_63_0, T.fo_63_1, T.fo_63_11, T.fo_63_13, T.gf_27, T.ib_3, T.ii_61, T.ip_3, T.pl_66, T.s8_61, T.sl_61, T.st_61, T.un_61, T.zo_66, init_a])
  refine CallsH.pure _ rfl (time_ph h.ro p wv s _ at_ (by rw [get_ro, hp, lock_live', lock_cells])) ?_
  have no : sentOk s num size at_ = false → MP h p D (if sentOk s num size at_ then sentS s num size asks at_ else s) h := fun e => by
    rw [e]; exact ⟨⟨D, ⟨hpn, hpD, wv, hp, hO⟩, fun d hd => .inl hd⟩, Upd.refl _ _⟩
  cases ht : timeOk s at_ with
  | false =>
    have e : sentOk s num size at_ = false := by simp [sentOk, ht]
    simp (config := { dsimp := false }) only [go_sem, reduceIte, Nat.reduceEqDiff, reduceCtorEq, Nat.reduceAdd, Nat.reduceMul, Int.reduceToNat, Int.reduceLE, Int.reduceLT, Int.reduceEq, Int.reduceNe, Nat.reduceLeDiff, Int.reducePow, Nat.reducePow, Nat.reduceLT, Nat.reduceSub, Nat.reduceMod, Nat.reduceDiv, T.ag_3, T.ag_61, T.eb_61, T.ez_61, T.fo_63_0, T.fo_63_1, T.fo_63_11, T.fo_63_13, T.gf_27, T.ib_3, T.ii_61, T.ip_3, T.pl_66, T.s8_61, T.sl_61, T.st_61, T.un_61, T.zo_66, e]
    have := no e
    rw [e] at this
    simpa using this
  | true =>
    by_cases hc : s.top < num ∧ num ≤ 1099511627776 ∧ 1 ≤ size ∧ size ≤ 65535
    · have e : sentOk s num size at_ = true := by simp [sentOk, ht, hc]
      have c1 : (num ≤ s.top) = False := eq_false (by omega)
      have c2 : (1099511627776 < num) = False := eq_false (by omega)
      have c3 : (size < 1) = False := eq_false (by omega)
      have c4 : (65535 < size) = False := eq_false (by omega)
      simp (config := { dsimp := false }) only [go_sem, reduceIte, Nat.reduceEqDiff, reduceCtorEq, Nat.reduceAdd, Nat.reduceMul, Int.reduceToNat, Int.reduceLE, Int.reduceLT, Int.reduceEq, Int.reduceNe, Nat.reduceLeDiff, Int.reducePow, Nat.reducePow, Nat.reduceLT, Nat.reduceSub, Nat.reduceMod, Nat.reduceDiv, T.ag_3, T.ag_61, T.eb_61, T.ez_61, T.fo_63_0, T.fo_63_1, T.fo_63_11, T.fo_63_13, T.gf_27, T.ib_3, T.ii_61, T.ip_3, T.pl_66, T.s8_61, T.sl_61, T.st_61, T.un_61, T.zo_66, hp, stC, e, c1, c2, c3, c4, hw1.1, hw1.2]
      refine app_own (E := pkE) (ns := [⟨num, size, at_, asks⟩]) (hO.keep (by simp (config := { dsimp := false }) (disch := omega) only [get_alloc, get_put, get_app, next_alloc, next_put, next_app, get_mask, get_unmask, next_mask, next_unmask, List.mem_cons, List.not_mem_nil, or_false, true_or, or_true, false_or, and_true, true_and, and_false, false_and, not_true_eq_false, not_false_eq_true, ne_eq, reduceIte, slot_neg, slot_pos]; omega) fun d hd => ?_) rfl rfl rfl (by simp; omega) fun u H2 D2 hO2 hU2 hD2 => ?_
      · have := hO.lt d hd
        have : ¬ d = p := fun e => hpD (e ▸ hd)
        simp (config := { dsimp := false }) (disch := omega) only [get_alloc, get_put, get_app, next_alloc, next_put, next_app, get_mask, get_unmask, next_mask, next_unmask, List.mem_cons, List.not_mem_nil, or_false, true_or, or_true, false_or, and_true, true_and, and_false, false_and, not_true_eq_false, not_false_eq_true, ne_eq, reduceIte, slot_neg, slot_pos]
      have hup := hO2.row.one
      have hDp : p ∉ D2 := fun hd => (hD2 _ hd).elim hpD (by simp (config := { dsimp := false }) (disch := omega) only [get_alloc, get_put, get_app, next_alloc, next_put, next_app, get_mask, get_unmask, next_mask, next_unmask, List.mem_cons, List.not_mem_nil, or_false, true_or, or_true, false_or, and_true, true_and, and_false, false_and, not_true_eq_false, not_false_eq_true, ne_eq, reduceIte, slot_neg, slot_pos]; omega)
      have gp : H2.get p = .live (.cells (stC wv { s with top := num, now := at_ }) .own) := by
        rw [hU2.2 p (by simp (config := { dsimp := false }) (disch := omega) only [get_alloc, get_put, get_app, next_alloc, next_put, next_app, get_mask, get_unmask, next_mask, next_unmask, List.mem_cons, List.not_mem_nil, or_false, true_or, or_true, false_or, and_true, true_and, and_false, false_and, not_true_eq_false, not_false_eq_true, ne_eq, reduceIte, slot_neg, slot_pos]; omega) hpD]; simp (config := { dsimp := false }) (disch := omega) only [get_alloc, get_put, get_app, next_alloc, next_put, next_app, get_mask, get_unmask, next_mask, next_unmask, List.mem_cons, List.not_mem_nil, or_false, true_or, or_true, false_or, and_true, true_and, and_false, false_and, not_true_eq_false, not_false_eq_true, ne_eq, reduceIte, slot_neg, slot_pos]; rfl
      have gn : h.next + 1 ≤ H2.next := hU2.1
      have hU3 : Upd h H2 (p :: D) := (((Upd.refl h (p :: D)).put (.inl (by simp))).allocs).trans hU2 fun d hd => .inl (by simp [hd])
      have h1 := hs.flight
      have h2 := asum_le s.waits fun x hx => ⟨by have := (hs.pk x hx).1; omega, (hs.pk x hx).2.1⟩
      have h3 := hs.len
      cases asks with
      | false =>
        simp (config := { dsimp := false }) only [go_sem, reduceIte, Nat.reduceEqDiff, reduceCtorEq, Nat.reduceAdd, Nat.reduceMul, Int.reduceToNat, Int.reduceLE, Int.reduceLT, Int.reduceEq, Int.reduceNe, Nat.reduceLeDiff, Int.reducePow, Nat.reducePow, Nat.reduceLT, Nat.reduceSub, Nat.reduceMod, Nat.reduceDiv, T.ag_3, T.ag_61, T.eb_61, T.ez_61, T.fo_63_0, T.fo_63_1, T.fo_63_11, T.fo_63_13, T.gf_27, T.ib_3, T.ii_61, T.ip_3, T.pl_66, T.s8_61, T.sl_61, T.st_61, T.un_61, T.zo_66, gp, stC, hup.1]
        rw [e]
        exact ⟨rfl, by simpa [sentS, stC] using MP.put (s' := sentS s num size false at_) hpn hU3 hO2 hDp (fun d hd => (hD2 d hd).imp_right (by simp (config := { dsimp := false }) (disch := omega) only [get_alloc, get_put, get_app, next_alloc, next_put, next_app, get_mask, get_unmask, next_mask, next_unmask, List.mem_cons, List.not_mem_nil, or_false, true_or, or_true, false_or, and_true, true_and, and_false, false_and, not_true_eq_false, not_false_eq_true, ne_eq, reduceIte, slot_neg, slot_pos]; omega))⟩
      | true =>
        have w : IntKind.i64.wrap (s.flight + size) = s.flight + size := by rw [i64wrap] <;> omega
        simp (config := { dsimp := false }) only [go_sem, reduceIte, Nat.reduceEqDiff, reduceCtorEq, Nat.reduceAdd, Nat.reduceMul, Int.reduceToNat, Int.reduceLE, Int.reduceLT, Int.reduceEq, Int.reduceNe, Nat.reduceLeDiff, Int.reducePow, Nat.reducePow, Nat.reduceLT, Nat.reduceSub, Nat.reduceMod, Nat.reduceDiv, T.ag_3, T.ag_61, T.eb_61, T.ez_61, T.fo_63_0, T.fo_63_1, T.fo_63_11, T.fo_63_13, T.gf_27, T.ib_3, T.ii_61, T.ip_3, T.pl_66, T.s8_61, T.sl_61, T.st_61, T.un_61, T.zo_66, gp, stC, hup.1, w]
        rw [e]
        exact ⟨rfl, by simpa [sentS, stC] using MP.put (s' := sentS s num size true at_) hpn hU3 hO2 hDp (fun d hd => (hD2 d hd).imp_right (by simp (config := { dsimp := false }) (disch := omega) only [get_alloc, get_put, get_app, next_alloc, next_put, next_app, get_mask, get_unmask, next_mask, next_unmask, List.mem_cons, List.not_mem_nil, or_false, true_or, or_true, false_or, and_true, true_and, and_false, false_and, not_true_eq_false, not_false_eq_true, ne_eq, reduceIte, slot_neg, slot_pos]; omega))⟩
    · have e : sentOk s num size at_ = false := by simp [sentOk, ht]; omega
      have hno := no e
      rw [e] at hno ⊢
      by_cases c1 : num ≤ s.top
      · simp (config := { dsimp := false }) only [go_sem, reduceIte, Nat.reduceEqDiff, reduceCtorEq, Nat.reduceAdd, Nat.reduceMul, Int.reduceToNat, Int.reduceLE, Int.reduceLT, Int.reduceEq, Int.reduceNe, Nat.reduceLeDiff, Int.reducePow, Nat.reducePow, Nat.reduceLT, Nat.reduceSub, Nat.reduceMod, Nat.reduceDiv, T.ag_3, T.ag_61, T.eb_61, T.ez_61, T.fo_63_0, T.fo_63_1, T.fo_63_11, T.fo_63_13, T.gf_27, T.ib_3, T.ii_61, T.ip_3, T.pl_66, T.s8_61, T.sl_61, T.st_61, T.un_61, T.zo_66, hp, stC, c1]
        exact hno
      · by_cases c2 : 1099511627776 < num
        · simp (config := { dsimp := false }) only [go_sem, reduceIte, Nat.reduceEqDiff, reduceCtorEq, Nat.reduceAdd, Nat.reduceMul, Int.reduceToNat, Int.reduceLE, Int.reduceLT, Int.reduceEq, Int.reduceNe, Nat.reduceLeDiff, Int.reducePow, Nat.reducePow, Nat.reduceLT, Nat.reduceSub, Nat.reduceMod, Nat.reduceDiv, T.ag_3, T.ag_61, T.eb_61, T.ez_61, T.fo_63_0, T.fo_63_1, T.fo_63_11, T.fo_63_13, T.gf_27, T.ib_3, T.ii_61, T.ip_3, T.pl_66, T.s8_61, T.sl_61, T.st_61, T.un_61, T.zo_66, hp, stC, c1, c2]
          exact hno
        · by_cases c3 : size < 1
          · simp (config := { dsimp := false }) only [go_sem, reduceIte, Nat.reduceEqDiff, reduceCtorEq, Nat.reduceAdd, Nat.reduceMul, Int.reduceToNat, Int.reduceLE, Int.reduceLT, Int.reduceEq, Int.reduceNe, Nat.reduceLeDiff, Int.reducePow, Nat.reducePow, Nat.reduceLT, Nat.reduceSub, Nat.reduceMod, Nat.reduceDiv, T.ag_3, T.ag_61, T.eb_61, T.ez_61, T.fo_63_0, T.fo_63_1, T.fo_63_11, T.fo_63_13, T.gf_27, T.ib_3, T.ii_61, T.ip_3, T.pl_66, T.s8_61, T.sl_61, T.st_61, T.un_61, T.zo_66, hp, stC, c1, c2, c3]
            exact hno
          · have c4 : 65535 < size := by omega
            simp (config := { dsimp := false }) only [go_sem, reduceIte, Nat.reduceEqDiff, reduceCtorEq, Nat.reduceAdd, Nat.reduceMul, Int.reduceToNat, Int.reduceLE, Int.reduceLT, Int.reduceEq, Int.reduceNe, Nat.reduceLeDiff, Int.reducePow, Nat.reducePow, Nat.reduceLT, Nat.reduceSub, Nat.reduceMod, Nat.reduceDiv, T.ag_3, T.ag_61, T.eb_61, T.ez_61, T.fo_63_0, T.fo_63_1, T.fo_63_11, T.fo_63_13, T.gf_27, T.ib_3, T.ii_61, T.ip_3, T.pl_66, T.s8_61, T.sl_61, T.st_61, T.un_61, T.zo_66, hp, stC, c1, c2, c3, c4]
            exact hno
end Ph
