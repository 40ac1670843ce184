import Derived.Test.YtliblomkhapibaaL9
set_option maxRecDepth 100000
set_option maxHeartbeats 1000000
set_option linter.unusedSimpArgs false
set_option linter.unusedVariables false
namespace Ph
open Go Go.Proofs
attribute [local irreducible] Value.cells
attribute [local go_sem ↓] y_move y_assign y_pick y_nil y_bin y_un y_fa y_field y_ext y_ia y_ix y_slice y_build y_mf y_load y_len y_min y_max y_conv y_bs y_mk y_alloc y_box y_store y_clear y_app y_callf y_callt s_move s_assign s_pick s_nil s_bin s_un s_fa s_field s_ext s_ia s_ix s_slice s_conv s_build s_bs s_mf s_alloc s_box s_load s_store s_len s_clear s_min s_max s_app s_call q_call q_move q_assign q_pick q_nil q_bin q_un q_fa q_field q_ext q_ia q_ix q_slice q_conv q_build q_mf q_load q_len q_min q_max l_nil l_move l_assign l_pick l_nilc l_bin l_un l_fa l_field l_ext l_ia l_ix l_slice l_conv l_build l_mf l_load l_len l_min l_max l_call put_eq putN_eq o_nil o_plain o_gate v_nil v_plain v_gate vc_skip vc_region vc_seq vc_cond vc_block vc_loop vc_rf vc_exit vc_ret blk_normal blk_ret blk_exit on_normal on_ret on_exit vc_drawn draw_q s_mk l_bs l_mk l_alloc l_box l_store l_app l_clear pl_done pl_takeS pl_take pl_alt pl_stop one_plain one_gate
attribute [local go_sem] clear_nil clear_sl onAgg_a onTuple_t onFn_f onFn_y onFunc_f c_int c_nil c_sl c_str sl_sl sl_nil sl_str ix_str ix_agg n_nil n_sl n_str app_eq k_nil k_sl len_sl len_str upd_some upd_none ev_tmp ev_const ev_func rd_some gdst_eq otmp_t otmp_c get_put get_alloc next_put next_alloc get_app next_app init_a resV1 resV2 onPtr_ptr onBool_b onInt_i onSlice_s onSome_s onCells_c lett_eq gate_tt gate_tf gate_ff gate_ft gate_dt gate_df also_eq bin un minmax io_none io_some bo_none bo_some partOf List.getElem?_cons_zero List.getElem?_cons_succ List.getElem?_toArray Option.map_some Option.map_none Option.bind_some ne_eq not_true_eq_false not_false_eq_true false_implies true_implies and_true true_and and_self Bool.false_eq_true Nat.zero_add Nat.add_zero List.size_toArray List.length_cons List.length_nil List.map_toArray List.map_cons List.map_nil Array.getD_eq_getD_getElem? Option.getD_some Bool.not_true Bool.not_false Bool.not_eq_true Option.isNone_some Option.isNone_none List.append_toArray List.append_nil List.nil_append List.cons_append decide_true decide_false in_nil in_cons Bool.and_false Bool.and_true Bool.or_false Bool.true_or Bool.false_or get_mask next_mask get_unmask next_unmask ac_move ac_assign ac_pick ac_nil ac_bin ac_un ac_fa ac_field ac_ext ac_ia ac_ix ac_slice ac_build ac_mf ac_call ac_load ac_conv accP_p accS_s accS_n accS_i accS_t fixed_ro fixed_lock fixed_own get_ro next_ro lock_live' lock_cells List.mem_cons List.not_mem_nil or_false false_or or_true true_or and_false false_and IntKind.bits Int.natCast_zero Int.natCast_one size_str data_str list_str mk_str ext_str app_str bytes_str w_byte w_byteu Int.toNat_natCast Int.toNat_zero Int.toNat_one Nat.sub_zero ge_iff_le gt_iff_lt Nat.le_refl Int.le_refl List.drop_zero Int.ofNat_eq_natCast Int.natCast_nonneg Int.sub_zero oc_int oc_bool oc_str oc_ptr oc_sl oc_map oc_func List.set_cons_zero List.set_cons_succ Nat.mul_one List.all_cons List.all_nil Bool.and_self res_nil res_tmp res_cell tup_one tup_two tup_nil fill_nil repl_zero cells_agg List.append_eq List.toList_toArray Nat.zero_mul Nat.one_mul repl_one repl_two onSome_build fill_cons onSome_lit splice_eq cells_int cells_bool cells_str cells_ptr cells_sl cells_map cells_func loadK_n loadK_s load_k storeK_n storeK_s store_k all_arr List.take_zero List.take_succ_cons List.drop_succ_cons List.take_nil List.drop_nil lk_own lk_ro lk_lock lk_lk fixed_lk gate_nt gate_nf gate3_b gate3_u undef Bool.true_and Bool.false_and nx_l nx_r nx_lt put_put resV0
def giveP (best late : Int) (x : Pk) : Bool := decide (x.num ≤ best - 3 ∨ (x.num < best ∧ x.at_ ≤ late))
theorem give1_ph (h : Heap) (x : Pk) (b b5 p : Nat) (o o' o5 : Own) (wv : Value) (s : St) (late : Int) (hb : h.get b = .live (.cells [.pointer (some ⟨p, 0, none⟩)] o)) (hp : h.get p = .live (.cells (stC wv s) o')) (h5 : h.get b5 = .live (.cells [.int .i64 late] o5))
    (hn : b < h.next ∧ p < h.next ∧ b5 < h.next) (hbest : -1 ≤ s.best ∧ s.best ≤ 1099511627776) :
    @CallsH Try.prog 51 #[.agg (pkE.enc x).toArray, .pointer (some ⟨b, 0, none⟩), .pointer (some ⟨b5, 0, none⟩)] h ⟨fun u _ => u = .bool (giveP s.best late x)⟩ := by
  have n1 : (b = h.next) = False := eq_false (by omega)
  have n2 : (p = h.next) = False := eq_false (by omega)
  have n3 : (b5 = h.next) = False := eq_false (by omega)
  have w : IntKind.i64.wrap (s.best - 3) = s.best - 3 := i64wrap (by omega) (by omega)
  (refine calls_of_vc [] hm Try.func51 rfl (ts := [4]) rfl (by kernel_rfl) (by simp) ?_; simp (config := { dsimp := false }) only [go_sem, reduceIte, Nat.reduceEqDiff, reduceCtorEq, Nat.reduceAdd, Nat.reduceMul, Int.reduceToNat, Int.reduceLE, Int.reduceLT, Int.reduceEq, Int.reduceNe, Nat.reduceLeDiff, Int.reducePow, Nat.reducePow, Nat.reduceLT, Nat.reduceSub, Nat.reduceMod, Nat.reduceDiv, T.ag_24, T.ag_3, T.fo_63_2, T.fo_66_0, T.fo_66_2, T.ib_3, T.ip_3, init_a, pkE, hb, hp, h5, stC, n1, n2, n3, w])
  simp only [giveP]
  refine ⟨fun h1 => ⟨fun h2 => ?_, fun h2 => ?_⟩, fun h1 => ?_⟩ <;> simp [*]
theorem StR.upd {h h' : Heap} {p : Nat} {D F : List Nat} {s : St} (hS : StR h p D s) (hu : Upd h h' F) (hp : p ∉ F) (hD : ∀ d ∈ D, d ∉ F) : StR h' p D s := by
  obtain ⟨h1, h2, wv, h3, h4⟩ := hS
  exact ⟨Nat.lt_of_lt_of_le h1 hu.1, h2, wv, (hu.2 p h1 hp).trans h3, h4.upd hu hD⟩
theorem StR.lt {h : Heap} {p : Nat} {D : List Nat} {s : St} (hS : StR h p D s) : ∀ d ∈ D, d < h.next := by
  obtain ⟨_, _, wv, _, h4⟩ := hS
  exact h4.lt
def hitS (s : St) (at_ : Int) : St := { s with since := at_, mark := s.window / 2, window := max (s.window / 2) 2400 }
def lastAsk (l : List Pk) : Option Pk := l.reverse.find? (·.asks)
theorem lastAsk_some {l : List Pk} {i : Nat} {x : Pk} (hi : i < l.length) (hx : l[l.length - 1 - i]? = some x) (ha : x.asks = true) (hn : ∀ j, j < i → (l[l.length - 1 - j]?.getD ⟨0, 0, 0, false⟩).asks = false) : lastAsk l = some x := by
  unfold lastAsk
  rw [List.find?_eq_some_iff_getElem]
  refine ⟨ha, i, by simpa using hi, ?_, fun j hj => ?_⟩
  · rw [List.getElem_reverse]; exact (List.getElem?_eq_some_iff.1 hx).2
  · have := hn j hj
    rw [List.getElem?_eq_getElem (by omega)] at this
    rw [List.getElem_reverse]; simpa using this
theorem lastAsk_none {l : List Pk} (hn : ∀ j, j < l.length → (l[l.length - 1 - j]?.getD ⟨0, 0, 0, false⟩).asks = false) : lastAsk l = none := by
  unfold lastAsk
  rw [List.find?_eq_none]
  intro x hx
  obtain ⟨j, hj, rfl⟩ := List.getElem_of_mem (List.mem_reverse.1 hx)
  have := hn (l.length - 1 - j) (by omega)
  rw [show l.length - 1 - (l.length - 1 - j) = j by omega, List.getElem?_eq_getElem hj] at this
  simpa using this
def giveL (s : St) (at_ : Int) : List Pk := s.waits.filter (giveP s.best (at_ - waitT s))
def restS (s : St) (at_ : Int) : St := { s with waits := s.waits.filter fun x => !giveP s.best (at_ - waitT s) x, flight := s.flight - asum (giveL s at_) }
def giveS (s : St) (at_ : Int) : St := match lastAsk (giveL s at_) with | some x => if x.at_ > s.since then hitS (restS s at_) at_ else restS s at_ | none => restS s at_
theorem give_ph (h : Heap) (p : Nat) (D : List Nat) (s : St) (at_ : Int) (hS : StR h p D s) (hs : Ok s) (hat : 0 ≤ at_ ∧ at_ ≤ 1099511627776) :
    @CallsH Try.prog 38 #[.pointer (some ⟨p, 0, none⟩), .int .i64 at_] h ⟨fun u H => ∃ D2, OwnRow intE H u D2 ((giveL s at_).map (·.num)) ∧ (∀ d ∈ D2, h.next ≤ d ∧ d ≠ p) ∧ (∃ D', StR H p D' (giveS s at_) ∧ (∀ d ∈ D', d ∈ D ∨ h.next ≤ d) ∧ ∀ d ∈ D2, d ∉ D') ∧ Upd h H (p :: D)⟩ := by
  obtain ⟨hpn, hpD, wv, hp, hO⟩ := hS
  have b1 := hs.smooth
  have b2 := hs.last
  have hwt : 1 ≤ waitT s ∧ waitT s ≤ 1300000000000 := by unfold waitT; omega
  have w1 : IntKind.i64.wrap (at_ - waitT s) = at_ - waitT s := i64wrap (by omega) (by omega)
  (refine calls_of_codeR (rs := [.tmp 4]) Try.func38 rfl rfl (by simp) ?_)
  (refine CodeH.seq' (CodeH.of_vc [] hm (by kernel_rfl) ?_); simp (config := { dsimp := false }) only [go_sem, reduceIte, Nat.reduceEqDiff, reduceCtorEq, Nat.reduceAdd, Nat.reduceMul, Int.reduceToNat, Int.reduceLE, Int.reduceLT, Int.reduceEq, Int.reduceNe, Nat.reduceLeDiff, Int.reducePow, Nat.reducePow, Nat.reduceLT, Nat.reduceSub, Nat.reduceMod, Nat.reduceDiv, T.ag_24, T.ag_3, T.ag_4, T.ag_66, T.fo_63_10, T.fo_63_8, T.fo_63_9, T.fo_66_2, T.fo_66_3, T.gf_29, T.gf_37, T.gf_50, T.gf_52, T.ib_3, T.ip_3, T.zo_3, T.zo_66, init_a])
  (refine CodeH.seq' (CodeH.of_vc [] hm (by kernel_rfl) ?_); simp (config := { dsimp := false }) only [go_sem, reduceIte, Nat.reduceEqDiff, reduceCtorEq, Nat.reduceAdd, Nat.reduceMul, Int.reduceToNat, Int.reduceLE, Int.reduceLT, Int.reduceEq, Int.reduceNe, Nat.reduceLeDiff, Int.reducePow, Nat.reducePow, Nat.reduceLT, Nat.reduceSub, Nat.reduceMod, Nat.reduceDiv, T.ag_24, T.ag_3, T.ag_4, T.ag_66, T.fo_63_10, T.fo_63_8, T.fo_63_9, T.fo_66_2, T.fo_66_3, T.gf_29, T.gf_37, T.gf_50, T.gf_52, T.ib_3, T.ip_3, T.zo_3, T.zo_66, init_a])
  refine draw_cut (fun r H => r 2 = .pointer (some ⟨h.next, 0, none⟩) ∧ r 3 = .pointer (some ⟨h.next + 1, 0, none⟩) ∧ r 5 = .pointer (some ⟨h.next + 2, 0, none⟩) ∧ H.next = h.next + 3 ∧ H.get h.next = .live (.cells [.pointer (some ⟨p, 0, none⟩)] .own) ∧
    H.get (h.next + 1) = .live (.cells [.int .i64 at_] .own) ∧ H.get (h.next + 2) = .live (.cells [.int .i64 (at_ - waitT s)] .own) ∧ ∀ id, id < h.next → H.get id = h.get id) [] (.take 0 (.take 1 (.alt 2 (.take 3 (.alt 4 (.alt 5 .done .stop) .stop)) (.alt 4 (.alt 2 (.takeS 3 (.alt 5 .done .stop)) .stop) .stop)))) hm (by kernel_rfl) (by kernel_rfl) ?_ ?_
  · simp (config := { dsimp := false, maxSteps := 10000000 }) (disch := omega) only [go_sem, reduceIte, Nat.reduceEqDiff, reduceCtorEq, Nat.reduceAdd, Nat.reduceMul, Int.reduceToNat, Int.reduceLE, Int.reduceLT, Int.reduceEq, Int.reduceNe, Nat.reduceLeDiff, Int.reducePow, Nat.reducePow, Nat.reduceLT, Nat.reduceSub, Nat.reduceMod, Nat.reduceDiv, slot_neg, slot_pos, T.ag_24, T.ag_3, T.ag_4, T.ag_66, T.fo_63_10, T.fo_63_8, T.fo_63_9, T.fo_66_2, T.fo_66_3, T.gf_29, T.gf_37, T.gf_50, T.gf_52, T.ib_3, T.ip_3, T.zo_3, T.zo_66, hp]
    refine ⟨by omega, CallsH.pure _ rfl (waitT_ph _ p wv s .lock (by rw [get_ro, get_mask]; simp (config := { dsimp := false }) (disch := omega) only [get_alloc, get_put, get_app, next_alloc, next_put, next_app, get_mask, get_unmask, next_mask, next_unmask, List.mem_cons, List.not_mem_nil, or_false, true_or, or_true, false_or, and_true, true_and, and_false, false_and, not_true_eq_false, not_false_eq_true, ne_eq, reduceIte, slot_neg, slot_pos, hp]; rfl) hs) ?_, CallsH.pure _ rfl (waitT_ph _ p wv s .lock (by rw [get_ro, get_alloc]; simp (config := { dsimp := false }) (disch := omega) only [get_alloc, get_put, get_app, next_alloc, next_put, next_app, get_mask, get_unmask, next_mask, next_unmask, List.mem_cons, List.not_mem_nil, or_false, true_or, or_true, false_or, and_true, true_and, and_false, false_and, not_true_eq_false, not_false_eq_true, ne_eq, reduceIte, slot_neg, slot_pos, hp]; rfl) hs) ?_⟩
    · simp (config := { dsimp := false, maxSteps := 10000000 }) (disch := omega) only [go_sem, reduceIte, Nat.reduceEqDiff, reduceCtorEq, Nat.reduceAdd, Nat.reduceMul, Int.reduceToNat, Int.reduceLE, Int.reduceLT, Int.reduceEq, Int.reduceNe, Nat.reduceLeDiff, Int.reducePow, Nat.reducePow, Nat.reduceLT, Nat.reduceSub, Nat.reduceMod, Nat.reduceDiv, slot_neg, slot_pos, T.ag_24, T.ag_3, T.ag_4, T.ag_66, T.fo_63_10, T.fo_63_8, T.fo_63_9, T.fo_66_2, T.fo_66_3, T.gf_29, T.gf_37, T.gf_50, T.gf_52, T.ib_3, T.ip_3, T.zo_3, T.zo_66, w1]
      intro id hid
      simp (config := { dsimp := false }) (disch := omega) only [get_alloc, get_put, get_app, next_alloc, next_put, next_app, get_mask, get_unmask, next_mask, next_unmask, List.mem_cons, List.not_mem_nil, or_false, true_or, or_true, false_or, and_true, true_and, and_false, false_and, not_true_eq_false, not_false_eq_true, ne_eq, reduceIte, slot_neg, slot_pos]
    · simp (config := { dsimp := false, maxSteps := 10000000 }) (disch := omega) only [go_sem, reduceIte, Nat.reduceEqDiff, reduceCtorEq, Nat.reduceAdd, Nat.reduceMul, Int.reduceToNat, Int.reduceLE, Int.reduceLT, Int.reduceEq, Int.reduceNe, Nat.reduceLeDiff, Int.reducePow, Nat.reducePow, Nat.reduceLT, Nat.reduceSub, Nat.reduceMod, Nat.reduceDiv, slot_neg, slot_pos, T.ag_24, T.ag_3, T.ag_4, T.ag_66, T.fo_63_10, T.fo_63_8, T.fo_63_9, T.fo_66_2, T.fo_66_3, T.gf_29, T.gf_37, T.gf_50, T.gf_52, T.ib_3, T.ip_3, T.zo_3, T.zo_66, w1]
      intro id hid
      simp (config := { dsimp := false }) (disch := omega) only [get_alloc, get_put, get_app, next_alloc, next_put, next_app, get_mask, get_unmask, next_mask, next_unmask, List.mem_cons, List.not_mem_nil, or_false, true_or, or_true, false_or, and_true, true_and, and_false, false_and, not_true_eq_false, not_false_eq_true, ne_eq, reduceIte, slot_neg, slot_pos]
  · rintro r H ⟨q2, q3, q5, hn, g0, g1, g2, gk⟩
    have hpH : H.get p = .live (.cells (stC wv s) .own) := (gk p hpn).trans hp
    have hOH : OwnRow pkE H wv D s.waits := hO.keep (by omega) fun d hd => gk d (hO.lt d hd)
    (refine CodeH.seq' (CodeH.of_vc [] hm (by kernel_rfl) ?_); simp (config := { dsimp := false }) only [go_sem, reduceIte, Nat.reduceEqDiff, reduceCtorEq, Nat.reduceAdd, Nat.reduceMul, Int.reduceToNat, Int.reduceLE, Int.reduceLT, Int.reduceEq, Int.reduceNe, Nat.reduceLeDiff, Int.reducePow, Nat.reducePow, Nat.reduceLT, Nat.reduceSub, Nat.reduceMod, Nat.reduceDiv, T.ag_24, T.ag_3, T.ag_4, T.ag_66, T.fo_63_10, T.fo_63_8, T.fo_63_9, T.fo_66_2, T.fo_66_3, T.gf_29, T.gf_37, T.gf_50, T.gf_52, T.ib_3, T.ip_3, T.zo_3, T.zo_66, init_a, q2, q5, g0])
    have hfl := asum_le s.waits fun x hx => ⟨by have := (hs.pk x hx).1; omega, (hs.pk x hx).2.1⟩
    have hf1 := hs.flight
    have hf2 := hs.len
    refine (out_ph H p D wv s 51 _ (giveP s.best (at_ - waitT s)) hpH hOH (by omega) hpD hs.len (fun x hx => ⟨by have := (hs.pk x hx).1; omega, (hs.pk x hx).2.1⟩) (by omega) (by kernel_rfl) (fun x hx H' f h1 h2 h3 => ?_)).mono fun u H2 ⟨wv', D1, D2, o1, o2, o3, o4, o5, o6⟩ => ?_
    · have hDn : ∀ id, h.next ≤ id → id ∉ D := fun id h4 hd => by have := hO.lt id hd; omega
      exact give1_ph H' x h.next (h.next + 2) p .lock .lock .lock wv { s with flight := f } _ (by rw [h2 _ (by omega) (by omega) (hDn _ (by omega)), g0]; rfl) h3 (by rw [h2 _ (by omega) (by omega) (hDn _ (by omega)), g2]; rfl) ⟨by omega, by omega, by omega⟩ (by have := hs.best; have := hs.top; simp only; omega)
    · have hDn : ∀ id, h.next ≤ id → id ∉ D := fun id h4 hd => by have := hO.lt id hd; omega
      have k0 : H2.get h.next = .live (.cells [.pointer (some ⟨p, 0, none⟩)] .own) := by rw [o3.2 _ (by omega) (by simp; exact ⟨by omega, hDn _ (by omega)⟩)]; exact g0
      have kk1 : H2.get (h.next + 1) = .live (.cells [.int .i64 at_] .own) := by rw [o3.2 _ (by omega) (by simp; exact ⟨by omega, hDn _ (by omega)⟩)]; exact g1
      have hn2 := o3.1
      simp (config := { dsimp := false }) only [go_sem, reduceIte, Nat.reduceEqDiff, reduceCtorEq, Nat.reduceAdd, Nat.reduceMul, Int.reduceToNat, Int.reduceLE, Int.reduceLT, Int.reduceEq, Int.reduceNe, Nat.reduceLeDiff, Int.reducePow, Nat.reducePow, Nat.reduceLT, Nat.reduceSub, Nat.reduceMod, Nat.reduceDiv, T.ag_24, T.ag_3, T.ag_4, T.ag_66, T.fo_63_10, T.fo_63_8, T.fo_63_9, T.fo_66_2, T.fo_66_3, T.gf_29, T.gf_37, T.gf_50, T.gf_52, T.ib_3, T.ip_3, T.zo_3, T.zo_66, q2, q3, q5]
      obtain ⟨A, st, hu⟩ := o1.form
      have hL : giveL s at_ = s.waits.filter (giveP s.best (at_ - waitT s)) := rfl
      rw [← hL] at o1 o4
      have hLl : (giveL s at_).length ≤ 100000 := Nat.le_trans (List.length_filter_le _ _) hs.len
      have hpu : p < H2.next := by omega
      have hstat : ∀ H : Heap, H2.next ≤ H.next → (∀ id, id < H2.next → id ≠ p → H.get id = H2.get id) → ∀ s', H.get p = .live (.cells (stC wv' s') .own) → s'.waits = s.waits.filter (fun x => !giveP s.best (at_ - waitT s) x) → s' = giveS s at_ →
          RowIn pkE H u (giveL s at_) ∧ (∃ D', StR H p D' (giveS s at_) ∧ (∀ d ∈ D', d ∈ D)) ∧ Upd h H (p :: D) := fun H h1 h2 s' h3 h4 h5 => by
        have hD1p : p ∉ D1 := fun hd => hpD (o6 p hd)
        refine ⟨(o1.keep h1 fun d hd => h2 d (o1.lt d hd) (fun e => by have := o2 d hd; omega)).row, ⟨D1, ⟨by omega, hD1p, wv', h5 ▸ h3, ?_⟩, o6⟩, ⟨by omega, fun id hid hne => ?_⟩⟩
        · rw [← h5, h4]; exact o5.keep h1 fun d hd => h2 d (o5.lt d hd) (fun e => hD1p (e ▸ hd))
        · have e1 : id ≠ p := fun e => hne (by simp [e])
          have e2 : id ∉ D := fun e => hne (by simp [e])
          rw [h2 id (by omega) e1, o3.2 id (by omega) hne, gk id hid]
      refine CodeH.seq (fun r H => r 6 = u ∧ H2.next ≤ H.next ∧ RowIn pkE H u (giveL s at_) ∧ (∃ D', StR H p D' (giveS s at_) ∧ (∀ d ∈ D', d ∈ D)) ∧ Upd h H (p :: D)) (CodeH.of_vc [] hm (by kernel_rfl) ?_) fun r H ⟨q6, hHn, hrow, ⟨D3, hS3, hD3⟩, hU⟩ => ?_
      · simp (config := { dsimp := false }) only [go_sem, reduceIte, Nat.reduceEqDiff, reduceCtorEq, Nat.reduceAdd, Nat.reduceMul, Int.reduceToNat, Int.reduceLE, Int.reduceLT, Int.reduceEq, Int.reduceNe, Nat.reduceLeDiff, Int.reducePow, Nat.reducePow, Nat.reduceLT, Nat.reduceSub, Nat.reduceMod, Nat.reduceDiv, T.ag_24, T.ag_3, T.ag_4, T.ag_66, T.fo_63_10, T.fo_63_8, T.fo_63_9, T.fo_66_2, T.fo_66_3, T.gf_29, T.gf_37, T.gf_50, T.gf_52, T.ib_3, T.ip_3, T.zo_3, T.zo_66, q2, q3, q5]
        refine (BackPk_ph H2 u (giveL s at_) o1.row).mono fun u2 H3 ⟨e1, e2⟩ => ?_
        subst e1 e2
        simp (config := { dsimp := false }) only [go_sem, reduceIte, Nat.reduceEqDiff, reduceCtorEq, Nat.reduceAdd, Nat.reduceMul, Int.reduceToNat, Int.reduceLE, Int.reduceLT, Int.reduceEq, Int.reduceNe, Nat.reduceLeDiff, Int.reducePow, Nat.reducePow, Nat.reduceLT, Nat.reduceSub, Nat.reduceMod, Nat.reduceDiv, T.ag_24, T.ag_3, T.ag_4, T.ag_66, T.fo_63_10, T.fo_63_8, T.fo_63_9, T.fo_66_2, T.fo_66_3, T.gf_29, T.gf_37, T.gf_50, T.gf_52, T.ib_3, T.ip_3, T.zo_3, T.zo_66, q2, q3, q5]
        refine RF.gen (fun r => r 2 = .pointer (some ⟨h.next, 0, none⟩) ∧ r 3 = .pointer (some ⟨h.next + 1, 0, none⟩) ∧ r 6 = u ∧ r 17 = .func (.func 53) #[] #[.pointer (some ⟨H2.next, 0, none⟩)]) ⟨by simp [upd, q2], by simp [upd, q3], by simp [upd], by simp [upd]⟩ fun r ⟨q2, q3, q6, q17⟩ => ?_
        refine range_over q17 (by kernel_rfl) (BackPk_phS H2.next u (giveL s at_) (by omega)) (fun args ha => ?_) (fun i H => H2.next + 1 < H.next ∧ (∀ id, id < H2.next → H.get id = H2.get id) ∧ H.get H2.next = .live (.cells [u] .own) ∧ ∀ j, j < i → ((giveL s at_)[(giveL s at_).length - 1 - j]?.getD ⟨0, 0, 0, false⟩).asks = false) ?_ ?_ ?_ ?_ ?_ ?_
        · obtain ⟨i, _, rfl⟩ := List.mem_map.1 ha; rfl
        · intro H hu1 hn1
          refine ⟨by rw [hn1]; simp [Heap.alloc], fun id hid => ?_, ?_, fun j hj => by omega⟩
          · rw [hu1.2 id (by simp [Heap.alloc]; omega) (by simp), get_alloc, if_neg (by omega)]
          · rw [hu1.2 _ (by simp [Heap.alloc]) (by simp), get_alloc, if_pos rfl]
        · rintro i H ⟨h1, h2, h3, _⟩
          exact ⟨_, h3, (o1.keep (by omega) fun d hd => h2 d (o1.lt d hd)).row⟩
        · rintro i H H' ⟨h1, h2, h3, h4⟩ hu
          exact ⟨Nat.lt_of_lt_of_le h1 hu.1, fun id hid => (hu.2 id (by omega) (by simp)).trans (h2 id hid), (hu.2 _ (by omega) (by simp)).trans h3, h4⟩
        · rintro i H x ⟨h1, h2, h3, h4⟩
          refine ⟨h1, fun id hid => ?_, ?_, h4⟩
          · rw [get_put, if_neg (by simp [Heap.alloc]; omega)]; exact h2 id hid
          · rw [get_put, if_neg (by simp [Heap.alloc])]; exact h3
        · rintro H x ⟨h1, h2, h3, h4⟩
          have e : restS s at_ = giveS s at_ := by unfold giveS; rw [lastAsk_none (fun j hj => h4 j (by simpa using hj))]
          simp (config := { dsimp := false }) only [go_sem, reduceIte, Nat.reduceEqDiff, reduceCtorEq, Nat.reduceAdd, Nat.reduceMul, Int.reduceToNat, Int.reduceLE, Int.reduceLT, Int.reduceEq, Int.reduceNe, Nat.reduceLeDiff, Int.reducePow, Nat.reducePow, Nat.reduceLT, Nat.reduceSub, Nat.reduceMod, Nat.reduceDiv, T.ag_24, T.ag_3, T.ag_4, T.ag_66, T.fo_63_10, T.fo_63_8, T.fo_63_9, T.fo_66_2, T.fo_66_3, T.gf_29, T.gf_37, T.gf_50, T.gf_52, T.ib_3, T.ip_3, T.zo_3, T.zo_66, q6]
          refine ⟨by omega, hstat _ (by rw [next_put]; omega) (fun id hid hne => ?_) (restS s at_) ?_ rfl e⟩
          · rw [get_put, if_neg (by show ¬ id = H2.next + 1; omega)]; exact h2 id hid
          · rw [get_put, if_neg (by show ¬ p = H2.next + 1; omega), h2 p hpu]; exact o4
        · rintro n i args H B k1 k2 hx ⟨h1, h2, h3, h4⟩ hB hlt
          have hB' : H.get (H2.next + 1) = B := hB
          have hi : i < (giveL s at_).length := by
            have := (List.getElem?_eq_some_iff.1 hx).1; simpa using this
          have hxx : (giveL s at_)[(giveL s at_).length - 1 - i]? = some (giveL s at_)[(giveL s at_).length - 1 - i] := List.getElem?_eq_getElem _
          rw [List.getElem?_map, List.getElem?_range hi, Option.map_some, hxx] at hx
          have hpkx : 1 ≤ (giveL s at_)[(giveL s at_).length - 1 - i].size := (hs.pk _ (List.mem_filter.1 (List.getElem_mem _)).1).1
          generalize (giveL s at_)[(giveL s at_).length - 1 - i] = x at hx hxx hpkx
          cases hx
          rw [show ∀ a b : Value, setP r (#[18, 19] : Array Nat).toList (#[a, b] : Array Value).toList = upd (upd r (some 18) a) (some 19) b from fun _ _ => rfl]
          have hbk : H.get h.next = .live (.cells [.pointer (some ⟨p, 0, none⟩)] .own) := (h2 _ (by omega)).trans k0
          have hbk1 : H.get (h.next + 1) = .live (.cells [.int .i64 at_] .own) := (h2 _ (by omega)).trans kk1
          have hpk := (h2 p hpu).trans o4
          refine CodeH.of_vc [] hm k1 ?_
          have hen : pkE.enc x = [.int .i64 x.num, .int .i64 x.size, .int .i64 x.at_, .bool x.asks] := rfl
          simp (config := { dsimp := false, maxSteps := 10000000 }) (disch := omega) only [go_sem, reduceIte, Nat.reduceEqDiff, reduceCtorEq, Nat.reduceAdd, Nat.reduceMul, Int.reduceToNat, Int.reduceLE, Int.reduceLT, Int.reduceEq, Int.reduceNe, Nat.reduceLeDiff, Int.reducePow, Nat.reducePow, Nat.reduceLT, Nat.reduceSub, Nat.reduceMod, Nat.reduceDiv, slot_neg, slot_pos, T.ag_24, T.ag_3, T.ag_4, T.ag_66, T.fo_63_10, T.fo_63_8, T.fo_63_9, T.fo_66_2, T.fo_66_3, T.gf_29, T.gf_37, T.gf_50, T.gf_52, T.ib_3, T.ip_3, T.zo_3, T.zo_66, hen, hB']
          refine fun B' => CodeH.of_vc [] hm k2 ?_
          cases hax : x.asks with
          | false =>
            simp (config := { dsimp := false, maxSteps := 10000000 }) (disch := omega) only [go_sem, reduceIte, Nat.reduceEqDiff, reduceCtorEq, Nat.reduceAdd, Nat.reduceMul, Int.reduceToNat, Int.reduceLE, Int.reduceLT, Int.reduceEq, Int.reduceNe, Nat.reduceLeDiff, Int.reducePow, Nat.reducePow, Nat.reduceLT, Nat.reduceSub, Nat.reduceMod, Nat.reduceDiv, slot_neg, slot_pos, T.ag_24, T.ag_3, T.ag_4, T.ag_66, T.fo_63_10, T.fo_63_8, T.fo_63_9, T.fo_66_2, T.fo_66_3, T.gf_29, T.gf_37, T.gf_50, T.gf_52, T.ib_3, T.ip_3, T.zo_3, T.zo_66, hax]
            refine ⟨by omega, by omega, fun id hid => ?_, h3, fun j hj => ?_⟩
            · rw [if_neg (by omega), if_neg (by omega)]; exact h2 id hid
            · rcases Nat.lt_succ_iff_lt_or_eq.1 hj with hj | rfl
              · exact h4 j hj
              · rw [hxx]; exact hax
          | true =>
            have hlast := lastAsk_some hi hxx hax h4
            by_cases hsi : s.since < x.at_
            · have e : hitS (restS s at_) at_ = giveS s at_ := by unfold giveS; rw [hlast]; simp only []; rw [if_pos hsi]
              have hsi' : (s.since < x.at_) = True := eq_true hsi
              have hwin := hs.window
              have w2 : IntKind.i64.wrap (s.window.tdiv 2) = s.window / 2 := by rw [tdiv_pos (by omega)]; exact i64wrap (by omega) (by omega)
              simp (config := { dsimp := false, maxSteps := 10000000 }) (disch := omega) only [go_sem, reduceIte, Nat.reduceEqDiff, reduceCtorEq, Nat.reduceAdd, Nat.reduceMul, Int.reduceToNat, Int.reduceLE, Int.reduceLT, Int.reduceEq, Int.reduceNe, Nat.reduceLeDiff, Int.reducePow, Nat.reducePow, Nat.reduceLT, Nat.reduceSub, Nat.reduceMod, Nat.reduceDiv, slot_neg, slot_pos, T.ag_24, T.ag_3, T.ag_4, T.ag_66, T.fo_63_10, T.fo_63_8, T.fo_63_9, T.fo_66_2, T.fo_66_3, T.gf_29, T.gf_37, T.gf_50, T.gf_52, T.ib_3, T.ip_3, T.zo_3, T.zo_66, hax, q2, q3, hbk, hbk1, hpk, stC, hsi']
              refine draw_plan0 (.takeS 0 (.takeS 1 (.takeS 2 (.takeS 3 (.takeS 4 (.takeS 5 (.takeS 6 (.takeS 7 (.alt 8 .done .stop))))))))) hm (by kernel_rfl) (by kernel_rfl) ?_
              simp (config := { dsimp := false, maxSteps := 10000000 }) (disch := omega) only [go_sem, reduceIte, Nat.reduceEqDiff, reduceCtorEq, Nat.reduceAdd, Nat.reduceMul, Int.reduceToNat, Int.reduceLE, Int.reduceLT, Int.reduceEq, Int.reduceNe, Nat.reduceLeDiff, Int.reducePow, Nat.reducePow, Nat.reduceLT, Nat.reduceSub, Nat.reduceMod, Nat.reduceDiv, slot_neg, slot_pos, T.ag_24, T.ag_3, T.ag_4, T.ag_66, T.fo_63_10, T.fo_63_8, T.fo_63_9, T.fo_66_2, T.fo_66_3, T.gf_29, T.gf_37, T.gf_50, T.gf_52, T.ib_3, T.ip_3, T.zo_3, T.zo_66, hax, q2, q3, hbk, hbk1, hpk, stC, hsi', w2]
              refine draw_plan0 (.takeS 0 (.takeS 1 (.takeS 2 (.takeS 3 (.takeS 4 (.takeS 5 (.takeS 6 (.takeS 7 (.alt 8 .done .stop))))))))) hm (by kernel_rfl) (by kernel_rfl) ?_
              simp (config := { dsimp := false, maxSteps := 10000000 }) (disch := omega) only [go_sem, reduceIte, Nat.reduceEqDiff, reduceCtorEq, Nat.reduceAdd, Nat.reduceMul, Int.reduceToNat, Int.reduceLE, Int.reduceLT, Int.reduceEq, Int.reduceNe, Nat.reduceLeDiff, Int.reducePow, Nat.reducePow, Nat.reduceLT, Nat.reduceSub, Nat.reduceMod, Nat.reduceDiv, slot_neg, slot_pos, T.ag_24, T.ag_3, T.ag_4, T.ag_66, T.fo_63_10, T.fo_63_8, T.fo_63_9, T.fo_66_2, T.fo_66_3, T.gf_29, T.gf_37, T.gf_50, T.gf_52, T.ib_3, T.ip_3, T.zo_3, T.zo_66, hax, q2, q3, hbk, hbk1, hpk, stC, maxl]
              refine fun y => ⟨q6, by omega, hstat _ (by simp (config := { dsimp := false }) (disch := omega) only [get_alloc, get_put, get_app, next_alloc, next_put, next_app, get_mask, get_unmask, next_mask, next_unmask, List.mem_cons, List.not_mem_nil, or_false, true_or, or_true, false_or, and_true, true_and, and_false, false_and, not_true_eq_false, not_false_eq_true, ne_eq, reduceIte, slot_neg, slot_pos]; omega) (fun id hid hne => ?_) (hitS (restS s at_) at_) ?_ rfl e⟩
              · simp (config := { dsimp := false }) (disch := omega) only [get_alloc, get_put, get_app, next_alloc, next_put, next_app, get_mask, get_unmask, next_mask, next_unmask, List.mem_cons, List.not_mem_nil, or_false, true_or, or_true, false_or, and_true, true_and, and_false, false_and, not_true_eq_false, not_false_eq_true, ne_eq, reduceIte, slot_neg, slot_pos]; exact h2 id hid
              · simp (config := { dsimp := false }) (disch := omega) only [get_alloc, get_put, get_app, next_alloc, next_put, next_app, get_mask, get_unmask, next_mask, next_unmask, List.mem_cons, List.not_mem_nil, or_false, true_or, or_true, false_or, and_true, true_and, and_false, false_and, not_true_eq_false, not_false_eq_true, ne_eq, reduceIte, slot_neg, slot_pos]; rfl
            · have e : restS s at_ = giveS s at_ := by unfold giveS; rw [hlast]; simp only []; rw [if_neg hsi]
              have hsi' : (s.since < x.at_) = False := eq_false hsi
              simp (config := { dsimp := false, maxSteps := 10000000 }) (disch := omega) only [go_sem, reduceIte, Nat.reduceEqDiff, reduceCtorEq, Nat.reduceAdd, Nat.reduceMul, Int.reduceToNat, Int.reduceLE, Int.reduceLT, Int.reduceEq, Int.reduceNe, Nat.reduceLeDiff, Int.reducePow, Nat.reducePow, Nat.reduceLT, Nat.reduceSub, Nat.reduceMod, Nat.reduceDiv, slot_neg, slot_pos, T.ag_24, T.ag_3, T.ag_4, T.ag_66, T.fo_63_10, T.fo_63_8, T.fo_63_9, T.fo_66_2, T.fo_66_3, T.gf_29, T.gf_37, T.gf_50, T.gf_52, T.ib_3, T.ip_3, T.zo_3, T.zo_66, hax, q2, hbk, hpk, stC, hsi']
              refine fun y => ⟨q6, by omega, hstat _ (by simp (config := { dsimp := false }) (disch := omega) only [get_alloc, get_put, get_app, next_alloc, next_put, next_app, get_mask, get_unmask, next_mask, next_unmask, List.mem_cons, List.not_mem_nil, or_false, true_or, or_true, false_or, and_true, true_and, and_false, false_and, not_true_eq_false, not_false_eq_true, ne_eq, reduceIte, slot_neg, slot_pos]; omega) (fun id hid hne => ?_) (restS s at_) ?_ rfl e⟩
              · simp (config := { dsimp := false }) (disch := omega) only [get_alloc, get_put, get_app, next_alloc, next_put, next_app, get_mask, get_unmask, next_mask, next_unmask, List.mem_cons, List.not_mem_nil, or_false, true_or, or_true, false_or, and_true, true_and, and_false, false_and, not_true_eq_false, not_false_eq_true, ne_eq, reduceIte, slot_neg, slot_pos]; exact h2 id hid
              · simp (config := { dsimp := false }) (disch := omega) only [get_alloc, get_put, get_app, next_alloc, next_put, next_app, get_mask, get_unmask, next_mask, next_unmask, List.mem_cons, List.not_mem_nil, or_false, true_or, or_true, false_or, and_true, true_and, and_false, false_and, not_true_eq_false, not_false_eq_true, ne_eq, reduceIte, slot_neg, slot_pos]; exact hpk
      · have hlt2 : ∀ A n st, u = .slice (some A) n st → A.block < H.next := fun A n st e => by
          rcases o1 with ⟨e2, _⟩ | ⟨q, off, vs, _, hq, e2, _⟩
          · rw [e2] at e; cases e
          · rw [e2] at e; cases e; simp only; omega
        (refine CodeH.of_vc [] hm (by kernel_rfl) ?_; simp (config := { dsimp := false }) only [go_sem, reduceIte, Nat.reduceEqDiff, reduceCtorEq, Nat.reduceAdd, Nat.reduceMul, Int.reduceToNat, Int.reduceLE, Int.reduceLT, Int.reduceEq, Int.reduceNe, Nat.reduceLeDiff, Int.reducePow, Nat.reducePow, Nat.reduceLT, Nat.reduceSub, Nat.reduceMod, Nat.reduceDiv, T.ag_24, T.ag_3, T.ag_4, T.ag_66, T.fo_63_10, T.fo_63_8, T.fo_63_9, T.fo_66_2, T.fo_66_3, T.gf_29, T.gf_37, T.gf_50, T.gf_52, T.ib_3, T.ip_3, T.zo_3, T.zo_66, init_a, q6])
        refine (numbers_ph H u (giveL s at_) hrow hlt2 (by omega)).mono fun v H4 ⟨D4, f1, f2, f3⟩ => ?_
        simp (config := { dsimp := false }) only [go_sem, reduceIte, Nat.reduceEqDiff, reduceCtorEq, Nat.reduceAdd, Nat.reduceMul, Int.reduceToNat, Int.reduceLE, Int.reduceLT, Int.reduceEq, Int.reduceNe, Nat.reduceLeDiff, Int.reducePow, Nat.reducePow, Nat.reduceLT, Nat.reduceSub, Nat.reduceMod, Nat.reduceDiv, T.ag_24, T.ag_3, T.ag_4, T.ag_66, T.fo_63_10, T.fo_63_8, T.fo_63_9, T.fo_66_2, T.fo_66_3, T.gf_29, T.gf_37, T.gf_50, T.gf_52, T.ib_3, T.ip_3, T.zo_3, T.zo_66]
        have hSl := hS3.lt
        exact ⟨D4, f1, fun d hd => by have := f3 d hd; omega, ⟨D3, hS3.upd f2 (by simp) (by simp), fun d hd => .inl (hD3 d hd), fun d hd hd2 => by have := f3 d hd; have := hSl d hd2; omega⟩, hU.trans f2 (by simp)⟩
end Ph
