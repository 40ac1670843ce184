import Derived.Test.YtliblomkhapibaaL12
set_option maxRecDepth 100000
set_option maxHeartbeats 1000000
set_option linter.unusedSimpArgs false
set_option linter.unusedVariables false
namespace Ph
open Go Go.Proofs
attribute [local irreducible] Value.cells
attribute [local go_sem ↓] y_move y_assign y_pick y_nil y_bin y_un y_fa y_field y_ext y_ia y_ix y_slice y_build y_mf y_load y_len y_min y_max y_conv y_bs y_mk y_alloc y_box y_store y_clear y_app y_callf y_callt s_move s_assign s_pick s_nil s_bin s_un s_fa s_field s_ext s_ia s_ix s_slice s_conv s_build s_bs s_mf s_alloc s_box s_load s_store s_len s_clear s_min s_max s_app s_call q_call q_move q_assign q_pick q_nil q_bin q_un q_fa q_field q_ext q_ia q_ix q_slice q_conv q_build q_mf q_load q_len q_min q_max l_nil l_move l_assign l_pick l_nilc l_bin l_un l_fa l_field l_ext l_ia l_ix l_slice l_conv l_build l_mf l_load l_len l_min l_max l_call put_eq putN_eq o_nil o_plain o_gate v_nil v_plain v_gate vc_skip vc_region vc_seq vc_cond vc_block vc_loop vc_rf vc_exit vc_ret blk_normal blk_ret blk_exit on_normal on_ret on_exit vc_drawn draw_q s_mk l_bs l_mk l_alloc l_box l_store l_app l_clear pl_done pl_takeS pl_take pl_alt pl_stop one_plain one_gate
attribute [local go_sem] clear_nil clear_sl onAgg_a onTuple_t onFn_f onFn_y onFunc_f c_int c_nil c_sl c_str sl_sl sl_nil sl_str ix_str ix_agg n_nil n_sl n_str app_eq k_nil k_sl len_sl len_str upd_some upd_none ev_tmp ev_const ev_func rd_some gdst_eq otmp_t otmp_c get_put get_alloc next_put next_alloc get_app next_app init_a resV1 resV2 onPtr_ptr onBool_b onInt_i onSlice_s onSome_s onCells_c lett_eq gate_tt gate_tf gate_ff gate_ft gate_dt gate_df also_eq bin un minmax io_none io_some bo_none bo_some partOf List.getElem?_cons_zero List.getElem?_cons_succ List.getElem?_toArray Option.map_some Option.map_none Option.bind_some ne_eq not_true_eq_false not_false_eq_true false_implies true_implies and_true true_and and_self Bool.false_eq_true Nat.zero_add Nat.add_zero List.size_toArray List.length_cons List.length_nil List.map_toArray List.map_cons List.map_nil Array.getD_eq_getD_getElem? Option.getD_some Bool.not_true Bool.not_false Bool.not_eq_true Option.isNone_some Option.isNone_none List.append_toArray List.append_nil List.nil_append List.cons_append decide_true decide_false in_nil in_cons Bool.and_false Bool.and_true Bool.or_false Bool.true_or Bool.false_or get_mask next_mask get_unmask next_unmask ac_move ac_assign ac_pick ac_nil ac_bin ac_un ac_fa ac_field ac_ext ac_ia ac_ix ac_slice ac_build ac_mf ac_call ac_load ac_conv accP_p accS_s accS_n accS_i accS_t fixed_ro fixed_lock fixed_own get_ro next_ro lock_live' lock_cells List.mem_cons List.not_mem_nil or_false false_or or_true true_or and_false false_and IntKind.bits Int.natCast_zero Int.natCast_one size_str data_str list_str mk_str ext_str app_str bytes_str w_byte w_byteu Int.toNat_natCast Int.toNat_zero Int.toNat_one Nat.sub_zero ge_iff_le gt_iff_lt Nat.le_refl Int.le_refl List.drop_zero Int.ofNat_eq_natCast Int.natCast_nonneg Int.sub_zero oc_int oc_bool oc_str oc_ptr oc_sl oc_map oc_func List.set_cons_zero List.set_cons_succ Nat.mul_one List.all_cons List.all_nil Bool.and_self res_nil res_tmp res_cell tup_one tup_two tup_nil fill_nil repl_zero cells_agg List.append_eq List.toList_toArray Nat.zero_mul Nat.one_mul repl_one repl_two onSome_build fill_cons onSome_lit splice_eq cells_int cells_bool cells_str cells_ptr cells_sl cells_map cells_func loadK_n loadK_s load_k storeK_n storeK_s store_k all_arr List.take_zero List.take_succ_cons List.drop_succ_cons List.take_nil List.drop_nil lk_own lk_ro lk_lock lk_lk fixed_lk gate_nt gate_nf gate3_b gate3_u undef Bool.true_and Bool.false_and nx_l nx_r nx_lt put_put resV0
/-- one side of a choice, piece by piece -/
theorem CodeH.condT {P : Program} {n : Nat} {c : Operand} {x y : Code} {Q : Qt} {r : Regs} {h : Heap} (hok : okArg c = true) (hc : ev r c = .bool true) (h1 : CodeH P n x Q r h) : CodeH P n (.cond c x y) Q r h := fun ro lo ρ W a hro hlo hC hr => by
  have hro1 : ro = none ∨ noRF x = true := hro.imp (fun h => h) (fun h => by simp only [noRF, Bool.and_eq_true] at h; exact h.1)
  have he := eval_rel hok hr
  rw [hc] at he
  exact wpIn_cond (t := true) he.bool_inv (h1 ro lo ρ W a hro1 hlo hC hr)
theorem CodeH.condF {P : Program} {n : Nat} {c : Operand} {x y : Code} {Q : Qt} {r : Regs} {h : Heap} (hok : okArg c = true) (hc : ev r c = .bool false) (h1 : CodeH P n y Q r h) : CodeH P n (.cond c x y) Q r h := fun ro lo ρ W a hro hlo hC hr => by
  have hro2 : ro = none ∨ noRF y = true := hro.imp (fun h => h) (fun h => by simp only [noRF, Bool.and_eq_true] at h; exact h.2)
  have he := eval_rel hok hr
  rw [hc] at he
  exact wpIn_cond (t := false) he.bool_inv (h1 ro lo ρ W a hro2 hlo hC hr)
def inSp (n : Int) (x : Sp) : Bool := decide (x.fr ≤ n ∧ n ≤ x.to)
theorem acked3_ph (h : Heap) (x : Sp) (y : Pk) (b : Nat) (o : Own) (hb : h.get b = .live (.cells (pkE.enc y) o)) (hbn : b < h.next) :
    @CallsH Try.prog 32 #[.agg (spE.enc x).toArray, .pointer (some ⟨b, 0, none⟩)] h ⟨fun u _ => u = .bool (inSp y.num x)⟩ := by
  have n1 : (b = h.next) = False := eq_false (by omega)
  (refine calls_of_vc [] hm Try.func32 rfl (ts := [3]) rfl (by kernel_rfl) (by simp) ?_; simp (config := { dsimp := false }) only [go_sem, reduceIte, Nat.reduceEqDiff, reduceCtorEq, Nat.reduceAdd, Nat.reduceMul, Int.reduceToNat, Int.reduceLE, Int.reduceLT, Int.reduceEq, Int.reduceNe, Nat.reduceLeDiff, Int.reducePow, Nat.reducePow, Nat.reduceLT, Nat.reduceSub, Nat.reduceMod, Nat.reduceDiv, T.ag_3, T.fo_32_0, T.fo_32_1, T.fo_66_0, T.ib_3, T.ip_3, init_a, spE, pkE, hb, n1])
  simp only [inSp]
  refine ⟨fun h1 => ?_, fun h1 => ?_⟩ <;> simp [h1]
theorem acked2_ph (h : Heap) (x : Pk) : @CallsH Try.prog 34 #[.agg (pkE.enc x).toArray] h ⟨fun u _ => u = .bool x.asks⟩ := by
  (refine calls_of_vc [] hm Try.func34 rfl (ts := [2]) rfl (by kernel_rfl) (by simp) ?_; simp (config := { dsimp := false }) only [go_sem, reduceIte, Nat.reduceEqDiff, reduceCtorEq, Nat.reduceAdd, Nat.reduceMul, Int.reduceToNat, Int.reduceLE, Int.reduceLT, Int.reduceEq, Int.reduceNe, Nat.reduceLeDiff, Int.reducePow, Nat.reducePow, Nat.reduceLT, Nat.reduceSub, Nat.reduceMod, Nat.reduceDiv, T.ag_4, T.fo_66_3, init_a, pkE])
theorem acked1_ph (h : Heap) (y : Pk) (b : Nat) (o : Own) (v : Value) (l : List Sp) (hb : h.get b = .live (.cells [v] o)) (hbn : b < h.next) (hr : RowIn spE h v l) (hlt : ∀ A n st, v = .slice (some A) n st → A.block < h.next) (hl : l.length < 9223372036854775807) :
    @CallsH Try.prog 30 #[.agg (pkE.enc y).toArray, .pointer (some ⟨b, 0, none⟩)] h ⟨fun u _ => u = .bool (l.any (inSp y.num))⟩ := by
  have n1 : (b = h.next) = False := eq_false (by omega)
  (refine calls_of_vc [] hm Try.func30 rfl (ts := [3]) rfl (by kernel_rfl) (by simp) ?_; simp (config := { dsimp := false }) only [go_sem, reduceIte, Nat.reduceEqDiff, reduceCtorEq, Nat.reduceAdd, Nat.reduceMul, Int.reduceToNat, Int.reduceLE, Int.reduceLT, Int.reduceEq, Int.reduceNe, Nat.reduceLeDiff, Int.reducePow, Nat.reducePow, Nat.reduceLT, Nat.reduceSub, Nat.reduceMod, Nat.reduceDiv, T.ag_33, T.gf_31, init_a, pkE, hb, n1])
  have hr1 : RowIn spE (h.alloc (.cells (pkE.enc y) .own)) v l := hr.upd fun A n st e => by
    have := hlt A n st e
    rw [get_alloc, if_neg (by omega)]
  refine (ContainsSp_ph _ v l 32 _ (inSp y.num) hl (by kernel_rfl) hr1 (fun x _ => acked3_ph _ x y h.next _ (by rw [get_ro, get_alloc, if_pos rfl, lock_live', lock_cells]) (Nat.lt_succ_self _))).mono fun u H ⟨hu, hH⟩ => ?_
  subst hu hH
  simp (config := { dsimp := false }) only [go_sem, reduceIte, Nat.reduceEqDiff, reduceCtorEq, Nat.reduceAdd, Nat.reduceMul, Int.reduceToNat, Int.reduceLE, Int.reduceLT, Int.reduceEq, Int.reduceNe, Nat.reduceLeDiff, Int.reducePow, Nat.reducePow, Nat.reduceLT, Nat.reduceSub, Nat.reduceMod, Nat.reduceDiv, T.ag_33, T.gf_31]
def ackP (l : List Sp) (x : Pk) : Bool := l.any (inSp x.num)
def ackL (s : St) (l : List Sp) : List Pk := s.waits.filter (ackP l)
def ack1 (s : St) (l : List Sp) (at_ : Int) : St := { s with now := at_, waits := s.waits.filter fun x => !ackP l x, flight := s.flight - asum (ackL s l) }
def ack2 (s : St) (c : List Pk) (delay at_ : Int) (x : Pk) : St :=
  if s.best ≤ x.num then (if c.any (·.asks) then sampleS { s with best := x.num } (at_ - x.at_) delay else { s with best := x.num }) else s
def ack3 (s : St) (c : List Pk) (delay at_ : Int) : St := match c.getLast? with
  | none => s
  | some x => { c.foldl growS (ack2 s c delay at_ x) with tries := 0 }
def ackS (s : St) (l : List Sp) (delay at_ : Int) : St × List Int × List Int × Int :=
  if timeOk s at_ = true ∧ 0 ≤ delay ∧ delay ≤ 1099511627776 then
    if checkS s l = 0 then
      let s3 := ack3 (ack1 s l at_) (ackL s l) delay at_
      (giveS s3 at_, (ackL s l).map (·.num), (giveL s3 at_).map (·.num), 0)
    else (s, [], [], checkS s l)
  else (s, [], [], 1)
def AP (h : Heap) (p : Nat) (D : List Nat) (r : St × List Int × List Int × Int) (u : Value) (H : Heap) : Prop := ∃ v D2 v' D3, u = .tuple #[v, v', .int .i64 r.2.2.2] ∧ OwnRow intE H v D2 r.2.1 ∧ (∀ d ∈ D2, h.next ≤ d ∧ d ≠ p) ∧
  OwnRow intE H v' D3 r.2.2.1 ∧ (∀ d ∈ D3, h.next ≤ d ∧ d ≠ p) ∧ (∃ D', StR H p D' r.1 ∧ (∀ d ∈ D', d ∈ D ∨ h.next ≤ d) ∧ (∀ d ∈ D2, d ∉ D') ∧ ∀ d ∈ D3, d ∉ D') ∧ Upd h H (p :: D)
theorem AckedN_ph (h : Heap) (delay at_ : Int) : @CallsH Try.prog 11 #[.pointer none, .slice none 0 0, .int .i64 delay, .int .i64 at_] h ⟨fun u H => u = .tuple #[.slice none 0 0, .slice none 0 0, .int .i64 1]⟩ := by
  (refine calls_of_vc [] hm Try.func11 rfl (ts := [8, 9, 10]) rfl (by kernel_rfl) (by simp) ?_; simp (config := { dsimp := false, maxSteps := 10000000 }) (disch := omega) only [go_sem, reduceIte, Nat.reduceEqDiff, reduceCtorEq, Nat.reduceAdd, Nat.reduceMul, Int.reduceToNat, Int.reduceLE, Int.reduceLT, Int.reduceEq, Int.reduceNe, Nat.reduceLeDiff, Int.reducePow, Nat.reducePow, Nat.reduceLT, Nat.reduceSub, Nat.reduceMod, Nat.reduceDiv, slot_neg, slot_pos, T.ag_3, T.ag_33, T.ag_66, T.es_61, T.fo_63_12, T.fo_63_13, T.fo_63_2, T.fo_66_0, T.fo_66_2, T.gf_27, T.gf_28, T.gf_29, T.gf_33, T.gf_34, T.gf_35, T.gf_36, T.gf_37, T.gf_38, T.ib_27, T.ib_3, T.ii_61, T.ip_27, T.ip_3, T.s8_61, T.sl_61, T.st_61, T.un_61, T.zo_66, init_a])
  refine CallsH.pure _ rfl (timeN_ph _ _) ?_
  simp (config := { dsimp := false, maxSteps := 10000000 }) (disch := omega) only [go_sem, reduceIte, Nat.reduceEqDiff, reduceCtorEq, Nat.reduceAdd, Nat.reduceMul, Int.reduceToNat, Int.reduceLE, Int.reduceLT, Int.reduceEq, Int.reduceNe, Nat.reduceLeDiff, Int.reducePow, Nat.reducePow, Nat.reduceLT, Nat.reduceSub, Nat.reduceMod, Nat.reduceDiv, slot_neg, slot_pos, T.ag_3, T.ag_33, T.ag_66, T.es_61, T.fo_63_12, T.fo_63_13, T.fo_63_2, T.fo_66_0, T.fo_66_2, T.gf_27, T.gf_28, T.gf_29, T.gf_33, T.gf_34, T.gf_35, T.gf_36, T.gf_37, T.gf_38, T.ib_27, T.ib_3, T.ii_61, T.ip_27, T.ip_3, T.s8_61, T.sl_61, T.st_61, T.un_61, T.zo_66]
theorem asum_split (l : List Pk) (f : Pk → Bool) : asum (l.filter f) + asum (l.filter fun x => !f x) = asum l := by
  induction l with
  | nil => simp [asum]
  | cons x l ih =>
    have e : ∀ m : List Pk, asum (x :: m) = (if x.asks then x.size else 0) + asum m := fun m => by simp [asum]
    cases hf : f x <;> simp [hf, e] <;> omega
theorem Ok.out {s : St} (hs : Ok s) (f : Pk → Bool) : Ok { s with waits := s.waits.filter (fun x => !f x), flight := s.flight - asum (s.waits.filter f) } :=
  ⟨Nat.le_trans (List.length_filter_le _ _) hs.len, fun x hx => hs.pk x (List.mem_filter.1 hx).1, hs.top, hs.best, hs.now, hs.smooth, hs.vary, hs.least, hs.last, hs.window, hs.mark, hs.since, by
    have := asum_split s.waits f; have := hs.flight; simp only; omega, hs.tries⟩
theorem Ok.ack1 {s : St} (hs : Ok s) (l : List Sp) (at_ : Int) (h1 : s.now ≤ at_) (h2 : at_ ≤ 1099511627776) : Ok (ack1 s l at_) := (hs.at h1 h2).out (ackP l)
theorem Ok.sample {s : St} (hs : Ok s) {trip delay : Int} (ht : 0 ≤ trip ∧ trip ≤ 1099511627776) (hd : 0 ≤ delay ∧ delay ≤ 1099511627776) : Ok (sampleS s trip delay) := by
  have b1 := hs.smooth
  have b2 := hs.vary
  have b3 := hs.least
  unfold sampleS
  split
  · simp only
    have m1 : 0 ≤ min s.least trip ∧ min s.least trip ≤ 1099511627776 := by omega
    generalize min s.least trip = m at *
    refine ⟨hs.len, hs.pk, hs.top, hs.best, hs.now, ?_, ?_, m1, ht, hs.window, hs.mark, hs.since, hs.flight, hs.tries⟩ <;> simp only <;> split <;> omega
  · exact ⟨hs.len, hs.pk, hs.top, hs.best, hs.now, ht, by simp only; omega, ht, ht, hs.window, hs.mark, hs.since, hs.flight, hs.tries⟩
theorem Ok.grow {s : St} (hs : Ok s) {x : Pk} (hx : 1 ≤ x.size ∧ x.size ≤ 65535) : Ok (growS s x) := by
  have b1 := hs.window
  unfold growS
  split
  · exact hs
  · rename_i hn
    have hw : s.window ≤ 1073741824 := by
      refine Int.not_lt.1 fun h => hn (.inr (.inr h))
    split
    · exact ⟨hs.len, hs.pk, hs.top, hs.best, hs.now, hs.smooth, hs.vary, hs.least, hs.last, by simp only; omega, hs.mark, hs.since, hs.flight, hs.tries⟩
    · have hd1 : 0 ≤ 1200 * x.size / s.window := Int.ediv_nonneg (by omega) (by omega)
      have hd2 : 1200 * x.size / s.window ≤ 1200 * x.size := Int.ediv_le_self _ (by omega)
      exact ⟨hs.len, hs.pk, hs.top, hs.best, hs.now, hs.smooth, hs.vary, hs.least, hs.last, by simp only; omega, hs.mark, hs.since, hs.flight, hs.tries⟩
theorem Ok.give {s : St} (hs : Ok s) : Ok (giveS s s.now) := by
  have h1 : Ok (restS s s.now) := hs.out _
  have b1 := hs.window
  have b2 := hs.now
  have h2 : Ok (hitS (restS s s.now) s.now) := ⟨h1.len, h1.pk, h1.top, h1.best, h1.now, h1.smooth, h1.vary, h1.least, h1.last, by simp only [hitS, restS]; omega, by simp only [hitS, restS]; omega, by simp only [hitS, restS]; omega, h1.flight, h1.tries⟩
  unfold giveS
  split
  · split
    · exact h2
    · exact h1
  · exact h1
theorem MP.trans {h H1 H2 : Heap} {p : Nat} {D D' : List Nat} {s' : St} (hD : ∀ d ∈ D', d ∈ D ∨ h.next ≤ d) (hU : Upd h H1 (p :: D)) (h2 : MP H1 p D' s' H2) : MP h p D s' H2 := by
  obtain ⟨⟨D2, a1, a2⟩, a3⟩ := h2
  refine ⟨⟨D2, a1, fun d hd => ?_⟩, hU.trans a3 fun d hd => ?_⟩
  · rcases a2 d hd with h1 | h1
    · exact hD d h1
    · have := hU.1; right; omega
  · rcases List.mem_cons.1 hd with h1 | h1
    · exact .inl (by simp [h1])
    · exact (hD d h1).imp_left (by intro h; simp [h])
theorem Ok.ackd {s : St} (hs : Ok s) (c : List Pk) {delay at_ : Int} {x : Pk} (hx : 0 ≤ x.at_ ∧ x.at_ ≤ at_ ∧ at_ ≤ 1099511627776 ∧ x.num ≤ s.top) (hd : 0 ≤ delay ∧ delay ≤ 1099511627776) : Ok (ack2 s c delay at_ x) := by
  unfold ack2
  split
  · rename_i hb
    have hb2 := hs.best
    have hs2 : Ok { s with best := x.num } := ⟨hs.len, hs.pk, hs.top, by simp only; omega, hs.now, hs.smooth, hs.vary, hs.least, hs.last, hs.window, hs.mark, hs.since, hs.flight, hs.tries⟩
    split
    · exact hs2.sample (by omega) hd
    · exact hs2
  · exact hs
theorem Ok.grows {c : List Pk} (hc : ∀ x ∈ c, 1 ≤ x.size ∧ x.size ≤ 65535) {s : St} (hs : Ok s) : Ok (c.foldl growS s) := by
  induction c generalizing s with
  | nil => exact hs
  | cons x c ih => exact ih (fun y hy => hc y (by simp [hy])) (hs.grow (hc x (by simp)))
theorem Acked_ph (h : Heap) (p : Nat) (D : List Nat) (s : St) (v : Value) (l : List Sp) (delay at_ : Int) (hS : StR h p D s) (hs : Ok s) (hr : RowIn spE h v l) (hlt : ∀ A n st, v = .slice (some A) n st → A.block < h.next ∧ A.block ≠ p ∧ A.block ∉ D) (hl : l.length < 9223372036854775807) :
    @CallsH Try.prog 11 #[.pointer (some ⟨p, 0, none⟩), v, .int .i64 delay, .int .i64 at_] h ⟨fun u H => AP h p D (ackS s l delay at_) u H⟩ := by
  obtain ⟨hpn, hpD, wv, hp, hO⟩ := hS
  have h1 := hr.one
  (refine calls_of_codeR (rs := [.tmp 8, .tmp 9, .tmp 10]) Try.func11 rfl rfl (by simp) ?_)
  (refine CodeH.seq' (CodeH.of_vc [] hm (by kernel_rfl) ?_); simp (config := { dsimp := false, maxSteps := 10000000 }) (disch := omega) only [go_sem, reduceIte, Nat.reduceEqDiff, reduceCtorEq, Nat.reduceAdd, Nat.reduceMul, Int.reduceToNat, Int.reduceLE, Int.reduceLT, Int.reduceEq, Int.reduceNe, Nat.reduceLeDiff, Int.reducePow, Nat.reducePow, Nat.reduceLT, Nat.reduceSub, Nat.reduceMod, Nat.reduceDiv, slot_neg, slot_pos, T.ag_3, T.ag_33, T.ag_66, T.es_61, T.fo_63_12, T.fo_63_13, T.fo_63_2, T.fo_66_0, T.fo_66_2, T.gf_27, T.gf_28, T.gf_29, T.gf_33, T.gf_34, T.gf_35, T.gf_36, T.gf_37, T.gf_38, T.ib_27, T.ib_3, T.ii_61, T.ip_27, T.ip_3, T.s8_61, T.sl_61, T.st_61, T.un_61, T.zo_66, init_a, h1.1, h1.2])
  (refine CodeH.seq' (CodeH.of_vc [] hm (by kernel_rfl) ?_); simp (config := { dsimp := false, maxSteps := 10000000 }) (disch := omega) only [go_sem, reduceIte, Nat.reduceEqDiff, reduceCtorEq, Nat.reduceAdd, Nat.reduceMul, Int.reduceToNat, Int.reduceLE, Int.reduceLT, Int.reduceEq, Int.reduceNe, Nat.reduceLeDiff, Int.reducePow, Nat.reducePow, Nat.reduceLT, Nat.reduceSub, Nat.reduceMod, Nat.reduceDiv, slot_neg, slot_pos, T.ag_3, T.ag_33, T.ag_66, T.es_61, T.fo_63_12, T.fo_63_13, T.fo_63_2, T.fo_66_0, T.fo_66_2, T.gf_27, T.gf_28, T.gf_29, T.gf_33, T.gf_34, T.gf_35, T.gf_36, T.gf_37, T.gf_38, T.ib_27, T.ib_3, T.ii_61, T.ip_27, T.ip_3, T.s8_61, T.sl_61, T.st_61, T.un_61, T.zo_66, init_a])
  refine CallsH.pure _ rfl (time_ph _ p wv s _ at_ (by rw [get_ro, get_alloc, if_neg (by omega), hp, lock_live', lock_cells])) ?_
  have no : timeOk s at_ = true ∧ 0 ≤ delay ∧ delay ≤ 1099511627776 → False → True := fun _ _ => trivial
  have hU0 : Upd h (h.alloc (.cells [v] .own)) (p :: D) := Upd.alloc _ _ _
  have hS0 : StR (h.alloc (.cells [v] .own)) p D s := ⟨Nat.lt_succ_of_lt hpn, hpD, wv, by rw [get_alloc, if_neg (by omega)]; exact hp, hO.upd (Upd.alloc _ _ []) (by simp)⟩
  have fin : ∀ e : Int, AP h p D (s, [], [], e) (.tuple #[.slice none 0 0, .slice none 0 0, .int .i64 e]) (h.alloc (.cells [v] .own)) := fun e =>
    ⟨_, [], _, [], rfl, OwnRow.nil _, by simp, OwnRow.nil _, by simp, ⟨D, hS0, fun d hd => .inl hd, by simp, by simp⟩, hU0⟩
  by_cases hc : timeOk s at_ = true ∧ 0 ≤ delay ∧ delay ≤ 1099511627776
  · rw [hc.1]
    have c1 : (delay < 0) = False := eq_false (by omega)
    have c2 : (1099511627776 < delay) = False := eq_false (by omega)
    simp (config := { dsimp := false, maxSteps := 10000000 }) (disch := omega) only [go_sem, reduceIte, Nat.reduceEqDiff, reduceCtorEq, Nat.reduceAdd, Nat.reduceMul, Int.reduceToNat, Int.reduceLE, Int.reduceLT, Int.reduceEq, Int.reduceNe, Nat.reduceLeDiff, Int.reducePow, Nat.reducePow, Nat.reduceLT, Nat.reduceSub, Nat.reduceMod, Nat.reduceDiv, slot_neg, slot_pos, T.ag_3, T.ag_33, T.ag_66, T.es_61, T.fo_63_12, T.fo_63_13, T.fo_63_2, T.fo_66_0, T.fo_66_2, T.gf_27, T.gf_28, T.gf_29, T.gf_33, T.gf_34, T.gf_35, T.gf_36, T.gf_37, T.gf_38, T.ib_27, T.ib_3, T.ii_61, T.ip_27, T.ip_3, T.s8_61, T.sl_61, T.st_61, T.un_61, T.zo_66, c1, c2]
    (refine CodeH.seq' (CodeH.of_vc [] hm (by kernel_rfl) ?_); simp (config := { dsimp := false, maxSteps := 10000000 }) (disch := omega) only [go_sem, reduceIte, Nat.reduceEqDiff, reduceCtorEq, Nat.reduceAdd, Nat.reduceMul, Int.reduceToNat, Int.reduceLE, Int.reduceLT, Int.reduceEq, Int.reduceNe, Nat.reduceLeDiff, Int.reducePow, Nat.reducePow, Nat.reduceLT, Nat.reduceSub, Nat.reduceMod, Nat.reduceDiv, slot_neg, slot_pos, T.ag_3, T.ag_33, T.ag_66, T.es_61, T.fo_63_12, T.fo_63_13, T.fo_63_2, T.fo_66_0, T.fo_66_2, T.gf_27, T.gf_28, T.gf_29, T.gf_33, T.gf_34, T.gf_35, T.gf_36, T.gf_37, T.gf_38, T.ib_27, T.ib_3, T.ii_61, T.ip_27, T.ip_3, T.s8_61, T.sl_61, T.st_61, T.un_61, T.zo_66, init_a])
    have hr1 : RowIn spE (h.alloc (.cells [v] .own)) v l := hr.upd fun A n st e => by
      have := (hlt A n st e).1
      rw [get_alloc, if_neg (by omega)]
    have hlt1 : ∀ A n st, v = .slice (some A) n st → A.block < (h.alloc (.cells [v] .own)).next := fun A n st e => Nat.lt_succ_of_lt (hlt A n st e).1
    refine CallsH.pure _ rfl (check_ph _ p _ wv v s l (by rw [get_ro, get_alloc, if_neg (by omega), hp, lock_live', lock_cells]) (Nat.lt_succ_of_lt hpn) hr1.ro hlt1 hl) ?_
    by_cases hk : checkS s l = 0
    · have e : ackS s l delay at_ = (giveS (ack3 (ack1 s l at_) (ackL s l) delay at_) at_, (ackL s l).map (·.num), (giveL (ack3 (ack1 s l at_) (ackL s l) delay at_) at_).map (·.num), 0) := by unfold ackS; rw [if_pos hc, if_pos hk]
      rw [e]
      simp (config := { dsimp := false, maxSteps := 10000000 }) (disch := omega) only [go_sem, reduceIte, Nat.reduceEqDiff, reduceCtorEq, Nat.reduceAdd, Nat.reduceMul, Int.reduceToNat, Int.reduceLE, Int.reduceLT, Int.reduceEq, Int.reduceNe, Nat.reduceLeDiff, Int.reducePow, Nat.reducePow, Nat.reduceLT, Nat.reduceSub, Nat.reduceMod, Nat.reduceDiv, slot_neg, slot_pos, T.ag_3, T.ag_33, T.ag_66, T.es_61, T.fo_63_12, T.fo_63_13, T.fo_63_2, T.fo_66_0, T.fo_66_2, T.gf_27, T.gf_28, T.gf_29, T.gf_33, T.gf_34, T.gf_35, T.gf_36, T.gf_37, T.gf_38, T.ib_27, T.ib_3, T.ii_61, T.ip_27, T.ip_3, T.s8_61, T.sl_61, T.st_61, T.un_61, T.zo_66, hk]
      (refine CodeH.seq' (CodeH.of_vc [] hm (by kernel_rfl) ?_); simp (config := { dsimp := false, maxSteps := 10000000 }) (disch := omega) only [go_sem, reduceIte, Nat.reduceEqDiff, reduceCtorEq, Nat.reduceAdd, Nat.reduceMul, Int.reduceToNat, Int.reduceLE, Int.reduceLT, Int.reduceEq, Int.reduceNe, Nat.reduceLeDiff, Int.reducePow, Nat.reducePow, Nat.reduceLT, Nat.reduceSub, Nat.reduceMod, Nat.reduceDiv, slot_neg, slot_pos, T.ag_3, T.ag_33, T.ag_66, T.es_61, T.fo_63_12, T.fo_63_13, T.fo_63_2, T.fo_66_0, T.fo_66_2, T.gf_27, T.gf_28, T.gf_29, T.gf_33, T.gf_34, T.gf_35, T.gf_36, T.gf_37, T.gf_38, T.ib_27, T.ib_3, T.ii_61, T.ip_27, T.ip_3, T.s8_61, T.sl_61, T.st_61, T.un_61, T.zo_66, init_a, hp, stC])
      (refine CodeH.seq' (CodeH.of_vc [] hm (by kernel_rfl) ?_); simp (config := { dsimp := false, maxSteps := 10000000 }) (disch := omega) only [go_sem, reduceIte, Nat.reduceEqDiff, reduceCtorEq, Nat.reduceAdd, Nat.reduceMul, Int.reduceToNat, Int.reduceLE, Int.reduceLT, Int.reduceEq, Int.reduceNe, Nat.reduceLeDiff, Int.reducePow, Nat.reducePow, Nat.reduceLT, Nat.reduceSub, Nat.reduceMod, Nat.reduceDiv, slot_neg, slot_pos, T.ag_3, T.ag_33, T.ag_66, T.es_61, T.fo_63_12, T.fo_63_13, T.fo_63_2, T.fo_66_0, T.fo_66_2, T.gf_27, T.gf_28, T.gf_29, T.gf_33, T.gf_34, T.gf_35, T.gf_36, T.gf_37, T.gf_38, T.ib_27, T.ib_3, T.ii_61, T.ip_27, T.ip_3, T.s8_61, T.sl_61, T.st_61, T.un_61, T.zo_66, init_a])
      rw [show ([wv, Value.int IntKind.i64 s.top, Value.int IntKind.i64 s.best, Value.int IntKind.i64 s.smooth, Value.int IntKind.i64 s.vary, Value.int IntKind.i64 s.least, Value.int IntKind.i64 s.last, Value.bool s.had, Value.int IntKind.i64 s.window, Value.int IntKind.i64 s.mark, Value.int IntKind.i64 s.since, Value.int IntKind.i64 s.flight, Value.int IntKind.i64 s.tries, Value.int IntKind.i64 at_] : List Value) = stC wv { s with now := at_ } from rfl]
      obtain ⟨H1, hH1⟩ : ∃ H1, (h.alloc (.cells [v] .own)).put p (.live (.cells (stC wv { s with now := at_ }) .own)) = H1 := ⟨_, rfl⟩
      rw [hH1]
      have m0 : H1.next = h.next + 1 := by rw [← hH1]; rfl
      have m1 : H1.get p = .live (.cells (stC wv { s with now := at_ }) .own) := by rw [← hH1, get_put, if_pos rfl]
      have m2 : H1.get h.next = .live (.cells [v] .own) := by rw [← hH1]; simp (config := { dsimp := false }) (disch := omega) only [get_alloc, get_put, get_app, next_alloc, next_put, next_app, get_mask, get_unmask, next_mask, next_unmask, List.mem_cons, List.not_mem_nil, or_false, true_or, or_true, false_or, and_true, true_and, and_false, false_and, not_true_eq_false, not_false_eq_true, ne_eq, reduceIte, slot_neg, slot_pos]
      have m3 : ∀ id, id < h.next → id ≠ p → H1.get id = h.get id := fun id h1 h2 => by rw [← hH1]; simp (config := { dsimp := false }) (disch := omega) only [get_alloc, get_put, get_app, next_alloc, next_put, next_app, get_mask, get_unmask, next_mask, next_unmask, List.mem_cons, List.not_mem_nil, or_false, true_or, or_true, false_or, and_true, true_and, and_false, false_and, not_true_eq_false, not_false_eq_true, ne_eq, reduceIte, slot_neg, slot_pos]
      clear hH1
      have ht2 : s.now ≤ at_ ∧ at_ ≤ 1099511627776 := by simpa [timeOk] using hc.1
      have hs1 := hs.at ht2.1 ht2.2
      have hO1 : OwnRow pkE H1 wv D s.waits := hO.keep (by omega) fun d hd => m3 d (hO.lt d hd) (fun e => hpD (e ▸ hd))
      have hfl := asum_le s.waits fun x hx => ⟨by have := (hs.pk x hx).1; omega, (hs.pk x hx).2.1⟩
      have hf1 := hs.flight
      have hf2 := hs.len
      refine (out_ph H1 p D wv { s with now := at_ } 30 _ (ackP l) m1 hO1 (by omega) hpD hs.len (fun x hx => ⟨by have := (hs.pk x hx).1; omega, (hs.pk x hx).2.1⟩) (by simp only; omega) (by kernel_rfl) (fun x hx H' f k1 k2 k3 => ?_)).mono fun u H2 ⟨wv', D1, D2, o1, o2, o3, o4, o5, o6⟩ => ?_
      · have hDn : h.next ∉ D := fun hd => by have := hO.lt _ hd; omega
        refine acked1_ph H' x h.next .lock v l (by rw [k2 _ (by omega) (by omega) hDn, m2]; rfl) (by omega) ?_ (fun A n st e => by have := (hlt A n st e).1; omega) hl
        rcases hr with hr | ⟨q, off, vs, oq, e1, e2, e3⟩
        · exact .inl hr
        · have a1 := hlt _ _ _ e1
          exact .inr ⟨q, off, vs, _, e1, by rw [k2 q (by have := a1.1; simp only at this; omega) a1.2.1 a1.2.2, m3 q a1.1 a1.2.1, e2, lock_live', lock_cells], e3⟩
      · have hL : ackL s l = s.waits.filter (ackP l) := rfl
        have o1' : OwnRow pkE H2 u D2 (ackL s l) := o1
        have o4' : H2.get p = .live (.cells (stC wv' (ack1 s l at_)) .own) := o4
        have o5' : OwnRow pkE H2 wv' D1 (ack1 s l at_).waits := o5
        obtain ⟨A, st, hu⟩ := o1'.form
        have hLl : (ackL s l).length ≤ 100000 := Nat.le_trans (List.length_filter_le _ _) hs.len
        have hpk : ∀ x ∈ ackL s l, 1 ≤ x.size ∧ x.size ≤ 65535 ∧ 0 ≤ x.at_ ∧ x.at_ ≤ s.now ∧ -1 ≤ x.num ∧ x.num ≤ s.top := fun x hx => hs.pk x (List.mem_filter.1 hx).1
        have hs2 := hs.ack1 l at_ ht2.1 ht2.2
        have hDp : p ∉ D2 := fun hd => by have := o2 p hd; omega
        have hD12 : ∀ d ∈ D2, d ∉ D1 := fun d hd hd1 => by have := o2 d hd; have := hO.lt d (o6 d hd1); omega
        have hS2 : StR H2 p D1 (ack1 s l at_) := ⟨by have := o3.1; omega, fun hd => hpD (o6 p hd), wv', o4', o5'⟩
        have hU2 : Upd h H2 (p :: D) := by
          refine ⟨by have := o3.1; omega, fun id hid hn => ?_⟩
          have e1 : id ≠ p := fun e => hn (by simp [e])
          rw [o3.2 id (by omega) hn, m3 id hid e1]
        clear o1 o4 o5 hfl
        have hsnow : s.now ≤ at_ ∧ 0 ≤ s.now := ⟨ht2.1, hs.now.1⟩
        have htop := hs.top
        have hcd : 0 ≤ delay ∧ delay ≤ 1099511627776 := hc.2
        have htop2 : (ack1 s l at_).top = s.top := rfl
        generalize ackL s l = c at *
        generalize ack1 s l at_ = s2 at *
        simp (config := { dsimp := false, maxSteps := 10000000 }) (disch := omega) only [go_sem, reduceIte, Nat.reduceEqDiff, reduceCtorEq, Nat.reduceAdd, Nat.reduceMul, Int.reduceToNat, Int.reduceLE, Int.reduceLT, Int.reduceEq, Int.reduceNe, Nat.reduceLeDiff, Int.reducePow, Nat.reducePow, Nat.reduceLT, Nat.reduceSub, Nat.reduceMod, Nat.reduceDiv, slot_neg, slot_pos, T.ag_3, T.ag_33, T.ag_66, T.es_61, T.fo_63_12, T.fo_63_13, T.fo_63_2, T.fo_66_0, T.fo_66_2, T.gf_27, T.gf_28, T.gf_29, T.gf_33, T.gf_34, T.gf_35, T.gf_36, T.gf_37, T.gf_38, T.ib_27, T.ib_3, T.ii_61, T.ip_27, T.ip_3, T.s8_61, T.sl_61, T.st_61, T.un_61, T.zo_66, hu]
        rw [← hu]
        refine CodeH.seq (fun r H => r 0 = .pointer (some ⟨p, 0, none⟩) ∧ r 3 = .int .i64 at_ ∧ r 12 = u ∧ MP H2 p D1 (ack3 s2 c delay at_) H) ?_ fun r H ⟨q0, q3, q12, ⟨D4, hS4, hD4⟩, hU4⟩ => ?_
        · (refine CodeH.seq' (CodeH.of_vc [] hm (by kernel_rfl) ?_); simp (config := { dsimp := false, maxSteps := 10000000 }) (disch := omega) only [go_sem, reduceIte, Nat.reduceEqDiff, reduceCtorEq, Nat.reduceAdd, Nat.reduceMul, Int.reduceToNat, Int.reduceLE, Int.reduceLT, Int.reduceEq, Int.reduceNe, Nat.reduceLeDiff, Int.reducePow, Nat.reducePow, Nat.reduceLT, Nat.reduceSub, Nat.reduceMod, Nat.reduceDiv, slot_neg, slot_pos, T.ag_3, T.ag_33, T.ag_66, T.es_61, T.fo_63_12, T.fo_63_13, T.fo_63_2, T.fo_66_0, T.fo_66_2, T.gf_27, T.gf_28, T.gf_29, T.gf_33, T.gf_34, T.gf_35, T.gf_36, T.gf_37, T.gf_38, T.ib_27, T.ib_3, T.ii_61, T.ip_27, T.ip_3, T.s8_61, T.sl_61, T.st_61, T.un_61, T.zo_66, init_a, hu])
          cases hcl : c.getLast? with
          | none =>
            obtain rfl : c = [] := List.getLast?_eq_none_iff.1 hcl
            refine CodeH.condF (by kernel_rfl) rfl ?_
            (refine CodeH.of_vc [] hm (by kernel_rfl) ?_; simp (config := { dsimp := false, maxSteps := 10000000 }) (disch := omega) only [go_sem, reduceIte, Nat.reduceEqDiff, reduceCtorEq, Nat.reduceAdd, Nat.reduceMul, Int.reduceToNat, Int.reduceLE, Int.reduceLT, Int.reduceEq, Int.reduceNe, Nat.reduceLeDiff, Int.reducePow, Nat.reducePow, Nat.reduceLT, Nat.reduceSub, Nat.reduceMod, Nat.reduceDiv, slot_neg, slot_pos, T.ag_3, T.ag_33, T.ag_66, T.es_61, T.fo_63_12, T.fo_63_13, T.fo_63_2, T.fo_66_0, T.fo_66_2, T.gf_27, T.gf_28, T.gf_29, T.gf_33, T.gf_34, T.gf_35, T.gf_36, T.gf_37, T.gf_38, T.ib_27, T.ib_3, T.ii_61, T.ip_27, T.ip_3, T.s8_61, T.sl_61, T.st_61, T.un_61, T.zo_66, init_a, hu])
            exact ⟨⟨D1, hS2, fun d hd => .inl hd⟩, Upd.refl _ _⟩
          | some x =>
            have hcpos : 0 < c.length := by cases c with
              | nil => simp at hcl
              | cons => simp
            refine CodeH.condT (by kernel_rfl) (by simp [ev, rd, upd]; omega) ?_
            have hx1 : c[c.length - 1]? = some x := by rw [← List.getLast?_eq_getElem?]; exact hcl
            rcases o1' with ⟨_, hnil, _⟩ | ⟨q, off, ws, hDq, hqn, hu', hq, hR⟩
            · rw [hnil] at hcpos; simp at hcpos
            · have hxa := hR.at hx1
              have h1' : List.take 4 (List.drop (off + (c.length - 1) * 4) ws) = [.int .i64 x.num, .int .i64 x.size, .int .i64 x.at_, .bool x.asks] := hxa.1
              have h2' : off + (c.length - 1) * 4 + 4 ≤ ws.length := hxa.2
              have w0 : IntKind.i64.wrap ((c.length : Int) - 1) = ((c.length - 1 : Nat) : Int) := by rw [i64wrap] <;> omega
              have hb : (((c.length - 1 : Nat) : Int) < (c.length : Int)) = True := eq_true (by omega)
              have hK : pkE.k = 4 := rfl
              obtain ⟨e1, _, e2⟩ := Value.slice.inj (hu.symm.trans hu')
              rw [e1, e2]
              (refine CodeH.seq' (CodeH.of_vc [] hm (by kernel_rfl) ?_); simp (config := { dsimp := false, maxSteps := 10000000 }) (disch := omega) only [go_sem, reduceIte, Nat.reduceEqDiff, reduceCtorEq, Nat.reduceAdd, Nat.reduceMul, Int.reduceToNat, Int.reduceLE, Int.reduceLT, Int.reduceEq, Int.reduceNe, Nat.reduceLeDiff, Int.reducePow, Nat.reducePow, Nat.reduceLT, Nat.reduceSub, Nat.reduceMod, Nat.reduceDiv, slot_neg, slot_pos, T.ag_3, T.ag_33, T.ag_66, T.es_61, T.fo_63_12, T.fo_63_13, T.fo_63_2, T.fo_66_0, T.fo_66_2, T.gf_27, T.gf_28, T.gf_29, T.gf_33, T.gf_34, T.gf_35, T.gf_36, T.gf_37, T.gf_38, T.ib_27, T.ib_3, T.ii_61, T.ip_27, T.ip_3, T.s8_61, T.sl_61, T.st_61, T.un_61, T.zo_66, init_a, w0, hb, hq, h1', hK])
              refine ⟨h2', ?_⟩
              obtain ⟨H3, hH3⟩ : ∃ H3, (H2.alloc (.cells [.int .i64 0, .int .i64 0, .int .i64 0, .bool false] .own)).put H2.next (.live (.cells [.int .i64 x.num, .int .i64 x.size, .int .i64 x.at_, .bool x.asks] .own)) = H3 := ⟨_, rfl⟩
              rw [hH3]
              have n3 : H3.next = H2.next + 1 := by rw [← hH3]; rfl
              have g13 : H3.get H2.next = .live (.cells [.int .i64 x.num, .int .i64 x.size, .int .i64 x.at_, .bool x.asks] .own) := by rw [← hH3, get_put, if_pos rfl]
              have gk : Upd H2 H3 [] := by rw [← hH3]; exact (Upd.alloc _ _ _).put (.inr (Nat.le_refl _))
              clear hH3
              have hS3 : StR H3 p D1 s2 := hS2.upd gk (by simp) (by simp)
              have hqp : q ≠ p := fun e => hDp (by rw [hDq, e]; simp)
              have hqD : q ∉ D1 := hD12 q (by rw [hDq]; simp)
              have hcrow : ∀ H, Upd H2 H (p :: D1) → H.get q = .live (.cells ws .own) := fun H hu => (hu.2 q hqn (by simp [hqp, hqD])).trans hq
              have gk' : Upd H2 H3 (p :: D1) := gk.mono (by simp)
              have hpx := hpk x (List.mem_of_getElem? hx1)
              refine CodeH.gen (fun r h => H3 = h ∧ r 0 = .pointer (some ⟨p, 0, none⟩) ∧ r 2 = .int .i64 delay ∧ r 3 = .int .i64 at_ ∧ r 12 = .slice (some ⟨q, off, none⟩) c.length pkE.k ∧ r 13 = .pointer (some ⟨H2.next, 0, none⟩)) ⟨rfl, by simp [upd, initR], by simp [upd, initR], by simp [upd, initR], by simp [upd, hK], by simp [upd]⟩ fun r hx ⟨hh, q0, q2, q3, q12, q13⟩ => ?_
              subst hh
              refine CodeH.seq (fun r H => r 0 = .pointer (some ⟨p, 0, none⟩) ∧ r 3 = .int .i64 at_ ∧ r 12 = .slice (some ⟨q, off, none⟩) c.length pkE.k ∧ MP H3 p D1 (ack2 s2 c delay at_ x) H) ?_ fun r H ⟨q0, q3, q12, ⟨D4, hS4, hD4⟩, hU4⟩ => ?_
              · by_cases hbt : s2.best ≤ x.num
                · have e2 : ack2 s2 c delay at_ x = if c.any (·.asks) then sampleS { s2 with best := x.num } (at_ - x.at_) delay else { s2 with best := x.num } := by unfold ack2; rw [if_pos hbt]
                  rw [e2]
                  obtain ⟨hpn3, hpD3, wv3, hp3, hO3⟩ := hS3
                  (refine CodeH.of_vc [] hm (by kernel_rfl) ?_; simp (config := { dsimp := false, maxSteps := 10000000 }) (disch := omega) only [go_sem, reduceIte, Nat.reduceEqDiff, reduceCtorEq, Nat.reduceAdd, Nat.reduceMul, Int.reduceToNat, Int.reduceLE, Int.reduceLT, Int.reduceEq, Int.reduceNe, Nat.reduceLeDiff, Int.reducePow, Nat.reducePow, Nat.reduceLT, Nat.reduceSub, Nat.reduceMod, Nat.reduceDiv, slot_neg, slot_pos, T.ag_3, T.ag_33, T.ag_66, T.es_61, T.fo_63_12, T.fo_63_13, T.fo_63_2, T.fo_66_0, T.fo_66_2, T.gf_27, T.gf_28, T.gf_29, T.gf_33, T.gf_34, T.gf_35, T.gf_36, T.gf_37, T.gf_38, T.ib_27, T.ib_3, T.ii_61, T.ip_27, T.ip_3, T.s8_61, T.sl_61, T.st_61, T.un_61, T.zo_66, init_a, q0, q13, g13, hp3, stC, hbt, q12])
                  rw [show ([wv3, Value.int IntKind.i64 s2.top, Value.int IntKind.i64 x.num, Value.int IntKind.i64 s2.smooth, Value.int IntKind.i64 s2.vary, Value.int IntKind.i64 s2.least, Value.int IntKind.i64 s2.last, Value.bool s2.had, Value.int IntKind.i64 s2.window, Value.int IntKind.i64 s2.mark, Value.int IntKind.i64 s2.since, Value.int IntKind.i64 s2.flight, Value.int IntKind.i64 s2.tries, Value.int IntKind.i64 s2.now] : List Value) = stC wv3 { s2 with best := x.num } from rfl]
                  have hMP : MP H3 p D1 { s2 with best := x.num } (H3.put p (.live (.cells (stC wv3 { s2 with best := x.num }) .own))) := StR.put (s := s2) hpn3 hpD3 hO3 rfl
                  have hs2b : Ok { s2 with best := x.num } := ⟨hs2.len, hs2.pk, hs2.top, by simp only; omega, hs2.now, hs2.smooth, hs2.vary, hs2.least, hs2.last, hs2.window, hs2.mark, hs2.since, hs2.flight, hs2.tries⟩
                  have hx4 : (H3.put p (.live (.cells (stC wv3 { s2 with best := x.num }) .own))).get H2.next = .live (.cells [.int .i64 x.num, .int .i64 x.size, .int .i64 x.at_, .bool x.asks] .own) := by rw [get_put, if_neg (by have := hS2.1; omega)]; exact g13
                  generalize H3.put p (.live (.cells (stC wv3 { s2 with best := x.num }) .own)) = H4 at hMP hx4 ⊢
                  generalize ({ s2 with best := x.num } : St) = s4 at hMP hs2b ⊢
                  obtain ⟨⟨D4, hS4, hD4⟩, hU4⟩ := hMP
                  have hU24 : Upd H2 H4 (p :: D1) := gk'.trans hU4 (fun d hd => .inl hd)
                  refine (ContainsPk_ph H4 _ c 34 #[] (·.asks) (by omega) (by kernel_rfl) (.inr ⟨q, off, ws, .own, rfl, hcrow H4 hU24, hR⟩) (fun y _ => acked2_ph _ y)).mono fun u5 H5 ⟨e5, e6⟩ => ?_
                  subst e5 e6
                  cases hca : c.any (·.asks) with
                  | false =>
                    simp (config := { dsimp := false, maxSteps := 10000000 }) (disch := omega) only [go_sem, reduceIte, Nat.reduceEqDiff, reduceCtorEq, Nat.reduceAdd, Nat.reduceMul, Int.reduceToNat, Int.reduceLE, Int.reduceLT, Int.reduceEq, Int.reduceNe, Nat.reduceLeDiff, Int.reducePow, Nat.reducePow, Nat.reduceLT, Nat.reduceSub, Nat.reduceMod, Nat.reduceDiv, slot_neg, slot_pos, T.ag_3, T.ag_33, T.ag_66, T.es_61, T.fo_63_12, T.fo_63_13, T.fo_63_2, T.fo_66_0, T.fo_66_2, T.gf_27, T.gf_28, T.gf_29, T.gf_33, T.gf_34, T.gf_35, T.gf_36, T.gf_37, T.gf_38, T.ib_27, T.ib_3, T.ii_61, T.ip_27, T.ip_3, T.s8_61, T.sl_61, T.st_61, T.un_61, T.zo_66, q0, q3, q12]
                    exact ⟨⟨D4, hS4, hD4⟩, hU4⟩
                  | true =>
                    have w5 : IntKind.i64.wrap (at_ - x.at_) = at_ - x.at_ := i64wrap (by omega) (by omega)
                    simp (config := { dsimp := false, maxSteps := 10000000 }) (disch := omega) only [go_sem, reduceIte, Nat.reduceEqDiff, reduceCtorEq, Nat.reduceAdd, Nat.reduceMul, Int.reduceToNat, Int.reduceLE, Int.reduceLT, Int.reduceEq, Int.reduceNe, Nat.reduceLeDiff, Int.reducePow, Nat.reducePow, Nat.reduceLT, Nat.reduceSub, Nat.reduceMod, Nat.reduceDiv, slot_neg, slot_pos, T.ag_3, T.ag_33, T.ag_66, T.es_61, T.fo_63_12, T.fo_63_13, T.fo_63_2, T.fo_66_0, T.fo_66_2, T.gf_27, T.gf_28, T.gf_29, T.gf_33, T.gf_34, T.gf_35, T.gf_36, T.gf_37, T.gf_38, T.ib_27, T.ib_3, T.ii_61, T.ip_27, T.ip_3, T.s8_61, T.sl_61, T.st_61, T.un_61, T.zo_66, q0, q2, q3, q12, q13, hx4, w5]
                    refine (sample_ph H5 p D4 s4 (at_ - x.at_) delay hS4 hs2b (by omega) hcd).mono fun u6 H6 ⟨e7, ⟨D6, hS6, hD6⟩, hU6⟩ => ?_
                    subst e7
                    simp (config := { dsimp := false, maxSteps := 10000000 }) (disch := omega) only [go_sem, reduceIte, Nat.reduceEqDiff, reduceCtorEq, Nat.reduceAdd, Nat.reduceMul, Int.reduceToNat, Int.reduceLE, Int.reduceLT, Int.reduceEq, Int.reduceNe, Nat.reduceLeDiff, Int.reducePow, Nat.reducePow, Nat.reduceLT, Nat.reduceSub, Nat.reduceMod, Nat.reduceDiv, slot_neg, slot_pos, T.ag_3, T.ag_33, T.ag_66, T.es_61, T.fo_63_12, T.fo_63_13, T.fo_63_2, T.fo_66_0, T.fo_66_2, T.gf_27, T.gf_28, T.gf_29, T.gf_33, T.gf_34, T.gf_35, T.gf_36, T.gf_37, T.gf_38, T.ib_27, T.ib_3, T.ii_61, T.ip_27, T.ip_3, T.s8_61, T.sl_61, T.st_61, T.un_61, T.zo_66, q0, q3, q12]
                    exact MP.trans hD4 hU4 ⟨⟨D6, hS6, hD6⟩, hU6⟩
                · have e2 : ack2 s2 c delay at_ x = s2 := by unfold ack2; rw [if_neg hbt]
                  rw [e2]
                  obtain ⟨hpn3, hpD3, wv3, hp3, hO3⟩ := id hS3
                  (refine CodeH.of_vc [] hm (by kernel_rfl) ?_; simp (config := { dsimp := false, maxSteps := 10000000 }) (disch := omega) only [go_sem, reduceIte, Nat.reduceEqDiff, reduceCtorEq, Nat.reduceAdd, Nat.reduceMul, Int.reduceToNat, Int.reduceLE, Int.reduceLT, Int.reduceEq, Int.reduceNe, Nat.reduceLeDiff, Int.reducePow, Nat.reducePow, Nat.reduceLT, Nat.reduceSub, Nat.reduceMod, Nat.reduceDiv, slot_neg, slot_pos, T.ag_3, T.ag_33, T.ag_66, T.es_61, T.fo_63_12, T.fo_63_13, T.fo_63_2, T.fo_66_0, T.fo_66_2, T.gf_27, T.gf_28, T.gf_29, T.gf_33, T.gf_34, T.gf_35, T.gf_36, T.gf_37, T.gf_38, T.ib_27, T.ib_3, T.ii_61, T.ip_27, T.ip_3, T.s8_61, T.sl_61, T.st_61, T.un_61, T.zo_66, init_a, q0, q13, g13, hp3, stC, hbt, q12, q3])
                  exact ⟨⟨D1, hS3, fun d hd => .inl hd⟩, Upd.refl _ _⟩
              · have hs5 : Ok (ack2 s2 c delay at_ x) := hs2.ackd c (by omega) hcd
                have e5 : ack3 s2 c delay at_ = { c.foldl growS (ack2 s2 c delay at_ x) with tries := 0 } := by unfold ack3; rw [hcl]
                rw [e5]
                generalize ack2 s2 c delay at_ x = s5 at *
                have hUH : Upd H2 H (p :: D1) := gk'.trans hU4 (fun d hd => .inl hd)
                have hMP0 : MP H2 p D1 s5 H := MP.trans (fun d hd => .inl hd) gk' ⟨⟨D4, hS4, hD4⟩, hU4⟩
                (refine CodeH.seq' (CodeH.of_vc [] hm (by kernel_rfl) ?_); simp (config := { dsimp := false, maxSteps := 10000000 }) (disch := omega) only [go_sem, reduceIte, Nat.reduceEqDiff, reduceCtorEq, Nat.reduceAdd, Nat.reduceMul, Int.reduceToNat, Int.reduceLE, Int.reduceLT, Int.reduceEq, Int.reduceNe, Nat.reduceLeDiff, Int.reducePow, Nat.reducePow, Nat.reduceLT, Nat.reduceSub, Nat.reduceMod, Nat.reduceDiv, slot_neg, slot_pos, T.ag_3, T.ag_33, T.ag_66, T.es_61, T.fo_63_12, T.fo_63_13, T.fo_63_2, T.fo_66_0, T.fo_66_2, T.gf_27, T.gf_28, T.gf_29, T.gf_33, T.gf_34, T.gf_35, T.gf_36, T.gf_37, T.gf_38, T.ib_27, T.ib_3, T.ii_61, T.ip_27, T.ip_3, T.s8_61, T.sl_61, T.st_61, T.un_61, T.zo_66, init_a, q12])
                refine loop_intro [] hm (fun r H => ∃ i : Nat, i ≤ c.length ∧ MP H2 p D1 ((c.take i).foldl growS s5) H ∧ r 0 = .pointer (some ⟨p, 0, none⟩) ∧ r 3 = .int .i64 at_ ∧ r 12 = .slice (some ⟨q, off, none⟩) c.length pkE.k ∧ r 71 = .slice (some ⟨q, off, none⟩) c.length pkE.k ∧ r 72 = .int .i64 c.length ∧ r 73 = .int .i64 i) (fun r _ => match r 73 with | .int _ i => c.length - i.toNat | _ => 0) ?_ ?_
                · exact ⟨0, by omega, hMP0, by simp [upd, q0], by simp [upd, q3], by simp [upd, q12], by simp [upd], by simp [upd], by simp [upd]⟩
                · rintro r H ⟨i, hi, hMP, q0, q3, q12, q71, q72, q73⟩
                  by_cases hil : i < c.length
                  · have hlt' : ((i : Int) < (c.length : Int)) = True := eq_true (by omega)
                    have hxi : c[i]? = some c[i] := List.getElem?_eq_getElem hil
                    have hya := hR.at hxi
                    have hpy := hpk _ (List.mem_of_getElem? hxi)
                    have j1 : List.take 4 (List.drop (off + i * 4) ws) = pkE.enc c[i] := hya.1
                    have j2 : off + i * 4 + 4 ≤ ws.length := hya.2
                    have htk : c.take (i + 1) = c.take i ++ [c[i]] := take_next hxi
                    generalize c[i] = y at hxi hpy j1 htk
                    have hen : pkE.enc y = [.int .i64 y.num, .int .i64 y.size, .int .i64 y.at_, .bool y.asks] := rfl
                    rw [hen] at j1
                    have hgq := hcrow H hMP.2
                    have hok6 : Ok ((c.take i).foldl growS s5) := hs5.grows fun x hx => by have := hpk x (List.mem_of_mem_take hx); omega
                    have w1 : IntKind.i64.wrap ((i : Int) + 1) = ((i + 1 : Nat) : Int) := by rw [i64wrap] <;> omega
                    simp (config := { dsimp := false, maxSteps := 10000000 }) (disch := omega) only [go_sem, reduceIte, Nat.reduceEqDiff, reduceCtorEq, Nat.reduceAdd, Nat.reduceMul, Int.reduceToNat, Int.reduceLE, Int.reduceLT, Int.reduceEq, Int.reduceNe, Nat.reduceLeDiff, Int.reducePow, Nat.reducePow, Nat.reduceLT, Nat.reduceSub, Nat.reduceMod, Nat.reduceDiv, slot_neg, slot_pos, T.ag_3, T.ag_33, T.ag_66, T.es_61, T.fo_63_12, T.fo_63_13, T.fo_63_2, T.fo_66_0, T.fo_66_2, T.gf_27, T.gf_28, T.gf_29, T.gf_33, T.gf_34, T.gf_35, T.gf_36, T.gf_37, T.gf_38, T.ib_27, T.ib_3, T.ii_61, T.ip_27, T.ip_3, T.s8_61, T.sl_61, T.st_61, T.un_61, T.zo_66, q0, q3, q12, q71, q72, q73, hlt', hgq, j1, hK]
                    refine ⟨j2, ?_⟩
                    obtain ⟨⟨D6, hS6, hD6⟩, hU6⟩ := hMP
                    have hUg : Upd H ((H.alloc (.cells [.int .i64 0, .int .i64 0, .int .i64 0, .bool false] .own)).put H.next (.live (.cells [.int .i64 y.num, .int .i64 y.size, .int .i64 y.at_, .bool y.asks] .own))) [] := (Upd.alloc _ _ _).put (.inr (Nat.le_refl _))
                    have hSg := hS6.upd hUg (by simp) (by simp)
                    refine (grow_ph _ p D6 _ y hSg hok6.window (by omega)).mono fun u7 H7 ⟨e7, hM7⟩ => ?_
                    subst e7
                    simp (config := { dsimp := false, maxSteps := 10000000 }) (disch := omega) only [go_sem, reduceIte, Nat.reduceEqDiff, reduceCtorEq, Nat.reduceAdd, Nat.reduceMul, Int.reduceToNat, Int.reduceLE, Int.reduceLT, Int.reduceEq, Int.reduceNe, Nat.reduceLeDiff, Int.reducePow, Nat.reducePow, Nat.reduceLT, Nat.reduceSub, Nat.reduceMod, Nat.reduceDiv, slot_neg, slot_pos, T.ag_3, T.ag_33, T.ag_66, T.es_61, T.fo_63_12, T.fo_63_13, T.fo_63_2, T.fo_66_0, T.fo_66_2, T.gf_27, T.gf_28, T.gf_29, T.gf_33, T.gf_34, T.gf_35, T.gf_36, T.gf_37, T.gf_38, T.ib_27, T.ib_3, T.ii_61, T.ip_27, T.ip_3, T.s8_61, T.sl_61, T.st_61, T.un_61, T.zo_66, q0, q3, q12, q71, q72, q73, w1]
                    refine ⟨⟨i + 1, hil, ?_, rfl⟩, by omega⟩
                    rw [htk, List.foldl_append]
                    exact MP.trans hD6 hU6 (MP.trans (fun d hd => .inl hd) (hUg.mono (by simp)) hM7)
                  · have hlt' : ((i : Int) < (c.length : Int)) = False := eq_false (by omega)
                    obtain rfl : i = c.length := by omega
                    rw [List.take_length] at hMP
                    obtain ⟨⟨D6, hS6, hD6⟩, hU6⟩ := hMP
                    obtain ⟨hpn6, hpD6, wv6, hp6, hO6⟩ := hS6
                    simp (config := { dsimp := false, maxSteps := 10000000 }) (disch := omega) only [go_sem, reduceIte, Nat.reduceEqDiff, reduceCtorEq, Nat.reduceAdd, Nat.reduceMul, Int.reduceToNat, Int.reduceLE, Int.reduceLT, Int.reduceEq, Int.reduceNe, Nat.reduceLeDiff, Int.reducePow, Nat.reducePow, Nat.reduceLT, Nat.reduceSub, Nat.reduceMod, Nat.reduceDiv, slot_neg, slot_pos, T.ag_3, T.ag_33, T.ag_66, T.es_61, T.fo_63_12, T.fo_63_13, T.fo_63_2, T.fo_66_0, T.fo_66_2, T.gf_27, T.gf_28, T.gf_29, T.gf_33, T.gf_34, T.gf_35, T.gf_36, T.gf_37, T.gf_38, T.ib_27, T.ib_3, T.ii_61, T.ip_27, T.ip_3, T.s8_61, T.sl_61, T.st_61, T.un_61, T.zo_66, q0, q3, q12, q71, q72, q73, hlt']
                    (refine CodeH.of_vc [] hm (by kernel_rfl) ?_; simp (config := { dsimp := false, maxSteps := 10000000 }) (disch := omega) only [go_sem, reduceIte, Nat.reduceEqDiff, reduceCtorEq, Nat.reduceAdd, Nat.reduceMul, Int.reduceToNat, Int.reduceLE, Int.reduceLT, Int.reduceEq, Int.reduceNe, Nat.reduceLeDiff, Int.reducePow, Nat.reducePow, Nat.reduceLT, Nat.reduceSub, Nat.reduceMod, Nat.reduceDiv, slot_neg, slot_pos, T.ag_3, T.ag_33, T.ag_66, T.es_61, T.fo_63_12, T.fo_63_13, T.fo_63_2, T.fo_66_0, T.fo_66_2, T.gf_27, T.gf_28, T.gf_29, T.gf_33, T.gf_34, T.gf_35, T.gf_36, T.gf_37, T.gf_38, T.ib_27, T.ib_3, T.ii_61, T.ip_27, T.ip_3, T.s8_61, T.sl_61, T.st_61, T.un_61, T.zo_66, init_a, q0, q3, q12, hp6, stC])
                    exact ⟨rfl, MP.trans hD6 hU6 (StR.put (s := c.foldl growS s5) (s' := { c.foldl growS s5 with tries := 0 }) hpn6 hpD6 hO6 rfl)⟩
        · have hs6 : Ok (ack3 s2 c delay at_) := by
            unfold ack3
            split
            · exact hs2
            · rename_i x hx
              have hpx := hpk x (List.mem_of_getLast? hx)
              have h7 := (hs2.ackd c (x := x) (delay := delay) (at_ := at_) (by omega) hcd).grows (c := c) fun y hy => by have := hpk y hy; omega
              exact ⟨h7.len, h7.pk, h7.top, h7.best, h7.now, h7.smooth, h7.vary, h7.least, h7.last, h7.window, h7.mark, h7.since, h7.flight, by simp⟩
          generalize ack3 s2 c delay at_ = s6 at *
          have hrow : RowIn pkE H u c := (o1'.keep hU4.1 fun d hd => hU4.2 d (o1'.lt d hd) (by simp; exact ⟨fun e => hDp (e ▸ hd), hD12 d hd⟩)).row
          have hlt2 : ∀ A n st, u = .slice (some A) n st → A.block < H.next := fun A n st e => by
            have hn4 := hU4.1
            rcases o1' with ⟨e2, _⟩ | ⟨q, off, vs, _, hq, e2, _⟩
            · rw [e2] at e; cases e
            · rw [e2] at e; cases e; simp only; omega
          (refine CodeH.of_vc [] hm (by kernel_rfl) ?_; simp (config := { dsimp := false, maxSteps := 10000000 }) (disch := omega) only [go_sem, reduceIte, Nat.reduceEqDiff, reduceCtorEq, Nat.reduceAdd, Nat.reduceMul, Int.reduceToNat, Int.reduceLE, Int.reduceLT, Int.reduceEq, Int.reduceNe, Nat.reduceLeDiff, Int.reducePow, Nat.reducePow, Nat.reduceLT, Nat.reduceSub, Nat.reduceMod, Nat.reduceDiv, slot_neg, slot_pos, T.ag_3, T.ag_33, T.ag_66, T.es_61, T.fo_63_12, T.fo_63_13, T.fo_63_2, T.fo_66_0, T.fo_66_2, T.gf_27, T.gf_28, T.gf_29, T.gf_33, T.gf_34, T.gf_35, T.gf_36, T.gf_37, T.gf_38, T.ib_27, T.ib_3, T.ii_61, T.ip_27, T.ip_3, T.s8_61, T.sl_61, T.st_61, T.un_61, T.zo_66, init_a, q0, q3, q12])
          refine (numbers_ph H u c hrow hlt2 (by omega)).mono fun v5 H5 ⟨D5, f1, f2, f3⟩ => ?_
          have hS5 : StR H5 p D4 s6 := hS4.upd f2 (by simp) (by simp)
          simp (config := { dsimp := false, maxSteps := 10000000 }) (disch := omega) only [go_sem, reduceIte, Nat.reduceEqDiff, reduceCtorEq, Nat.reduceAdd, Nat.reduceMul, Int.reduceToNat, Int.reduceLE, Int.reduceLT, Int.reduceEq, Int.reduceNe, Nat.reduceLeDiff, Int.reducePow, Nat.reducePow, Nat.reduceLT, Nat.reduceSub, Nat.reduceMod, Nat.reduceDiv, slot_neg, slot_pos, T.ag_3, T.ag_33, T.ag_66, T.es_61, T.fo_63_12, T.fo_63_13, T.fo_63_2, T.fo_66_0, T.fo_66_2, T.gf_27, T.gf_28, T.gf_29, T.gf_33, T.gf_34, T.gf_35, T.gf_36, T.gf_37, T.gf_38, T.ib_27, T.ib_3, T.ii_61, T.ip_27, T.ip_3, T.s8_61, T.sl_61, T.st_61, T.un_61, T.zo_66, q0, q3, q12]
          refine (give_ph H5 p D4 s6 at_ hS5 hs6 (by omega)).mono fun v6 H6 ⟨D6, g1, g2, ⟨D7, g3, g4, g5⟩, g6⟩ => ?_
          obtain ⟨A5, st5, hv5⟩ := f1.form
          obtain ⟨A6, st6, hv6⟩ := g1.form
          simp (config := { dsimp := false, maxSteps := 10000000 }) (disch := omega) only [go_sem, reduceIte, Nat.reduceEqDiff, reduceCtorEq, Nat.reduceAdd, Nat.reduceMul, Int.reduceToNat, Int.reduceLE, Int.reduceLT, Int.reduceEq, Int.reduceNe, Nat.reduceLeDiff, Int.reducePow, Nat.reducePow, Nat.reduceLT, Nat.reduceSub, Nat.reduceMod, Nat.reduceDiv, slot_neg, slot_pos, T.ag_3, T.ag_33, T.ag_66, T.es_61, T.fo_63_12, T.fo_63_13, T.fo_63_2, T.fo_66_0, T.fo_66_2, T.gf_27, T.gf_28, T.gf_29, T.gf_33, T.gf_34, T.gf_35, T.gf_36, T.gf_37, T.gf_38, T.ib_27, T.ib_3, T.ii_61, T.ip_27, T.ip_3, T.s8_61, T.sl_61, T.st_61, T.un_61, T.zo_66]
          have hn5 := f2.1
          have hn4 := hU4.1
          have hn3 := hU2.1
          have hD1 : ∀ d ∈ D1, d ∈ D := o6
          have hl4 := hS4.lt
          have hl5 := hS5.1
          have h45 : ∀ d ∈ D5, d ∉ D4 := fun d hd h4 => by have := f3 d hd; have := hl4 d h4; omega
          have h5p : ∀ d ∈ D5, d ≠ p := fun d hd e => by have := f3 d hd; have := hS4.1; omega
          have hD4D : ∀ d ∈ D4, d ∈ D ∨ h.next ≤ d := fun d hd => (hD4 d hd).imp (o6 d) (fun h => by omega)
          refine ⟨v5, D5, v6, D6, rfl, f1.keep g6.1 (fun d hd => g6.2 d (f1.lt d hd) (by simp; exact ⟨h5p d hd, h45 d hd⟩)), fun d hd => ⟨by have := f3 d hd; omega, h5p d hd⟩, g1, fun d hd => ⟨by have := g2 d hd; omega, (g2 d hd).2⟩, ⟨D7, g3, fun d hd => ?_, fun d hd h7 => ?_, g5⟩, ?_⟩
          · rcases g4 d hd with h1 | h1
            · exact hD4D d h1
            · right; omega
          · rcases g4 d h7 with h1 | h1
            · exact h45 d hd h1
            · have := f1.lt d hd; omega
          · refine ((hU2.trans hU4 fun d hd => ?_).trans f2 (by simp)).trans g6 fun d hd => ?_
            · rcases List.mem_cons.1 hd with h1 | h1
              · exact .inl (by simp [h1])
              · exact .inl (by simp [hD1 d h1])
            · rcases List.mem_cons.1 hd with h1 | h1
              · exact .inl (by simp [h1])
              · exact (hD4D d h1).imp_left (by intro h; simp [h])
    · have e : ackS s l delay at_ = (s, [], [], checkS s l) := by unfold ackS; rw [if_pos hc, if_neg hk]
      rw [e]
      have hk' : (checkS s l = 0) = False := eq_false hk
      simp (config := { dsimp := false, maxSteps := 10000000 }) (disch := omega) only [go_sem, reduceIte, Nat.reduceEqDiff, reduceCtorEq, Nat.reduceAdd, Nat.reduceMul, Int.reduceToNat, Int.reduceLE, Int.reduceLT, Int.reduceEq, Int.reduceNe, Nat.reduceLeDiff, Int.reducePow, Nat.reducePow, Nat.reduceLT, Nat.reduceSub, Nat.reduceMod, Nat.reduceDiv, slot_neg, slot_pos, T.ag_3, T.ag_33, T.ag_66, T.es_61, T.fo_63_12, T.fo_63_13, T.fo_63_2, T.fo_66_0, T.fo_66_2, T.gf_27, T.gf_28, T.gf_29, T.gf_33, T.gf_34, T.gf_35, T.gf_36, T.gf_37, T.gf_38, T.ib_27, T.ib_3, T.ii_61, T.ip_27, T.ip_3, T.s8_61, T.sl_61, T.st_61, T.un_61, T.zo_66, hk']
      exact fin _
  · have e : ackS s l delay at_ = (s, [], [], 1) := by unfold ackS; rw [if_neg hc]
    rw [e]
    cases ht : timeOk s at_ with
    | false =>
      simp (config := { dsimp := false, maxSteps := 10000000 }) (disch := omega) only [go_sem, reduceIte, Nat.reduceEqDiff, reduceCtorEq, Nat.reduceAdd, Nat.reduceMul, Int.reduceToNat, Int.reduceLE, Int.reduceLT, Int.reduceEq, Int.reduceNe, Nat.reduceLeDiff, Int.reducePow, Nat.reducePow, Nat.reduceLT, Nat.reduceSub, Nat.reduceMod, Nat.reduceDiv, slot_neg, slot_pos, T.ag_3, T.ag_33, T.ag_66, T.es_61, T.fo_63_12, T.fo_63_13, T.fo_63_2, T.fo_66_0, T.fo_66_2, T.gf_27, T.gf_28, T.gf_29, T.gf_33, T.gf_34, T.gf_35, T.gf_36, T.gf_37, T.gf_38, T.ib_27, T.ib_3, T.ii_61, T.ip_27, T.ip_3, T.s8_61, T.sl_61, T.st_61, T.un_61, T.zo_66]
      exact fin 1
    | true =>
      rw [ht] at hc
      by_cases c1 : delay < 0
      · simp (config := { dsimp := false, maxSteps := 10000000 }) (disch := omega) only [go_sem, reduceIte, Nat.reduceEqDiff, reduceCtorEq, Nat.reduceAdd, Nat.reduceMul, Int.reduceToNat, Int.reduceLE, Int.reduceLT, Int.reduceEq, Int.reduceNe, Nat.reduceLeDiff, Int.reducePow, Nat.reducePow, Nat.reduceLT, Nat.reduceSub, Nat.reduceMod, Nat.reduceDiv, slot_neg, slot_pos, T.ag_3, T.ag_33, T.ag_66, T.es_61, T.fo_63_12, T.fo_63_13, T.fo_63_2, T.fo_66_0, T.fo_66_2, T.gf_27, T.gf_28, T.gf_29, T.gf_33, T.gf_34, T.gf_35, T.gf_36, T.gf_37, T.gf_38, T.ib_27, T.ib_3, T.ii_61, T.ip_27, T.ip_3, T.s8_61, T.sl_61, T.st_61, T.un_61, T.zo_66, c1]
        exact fin 1
      · have c2 : 1099511627776 < delay := by simp at hc; omega
        simp (config := { dsimp := false, maxSteps := 10000000 }) (disch := omega) only [go_sem, reduceIte, Nat.reduceEqDiff, reduceCtorEq, Nat.reduceAdd, Nat.reduceMul, Int.reduceToNat, Int.reduceLE, Int.reduceLT, Int.reduceEq, Int.reduceNe, Nat.reduceLeDiff, Int.reducePow, Nat.reducePow, Nat.reduceLT, Nat.reduceSub, Nat.reduceMod, Nat.reduceDiv, slot_neg, slot_pos, T.ag_3, T.ag_33, T.ag_66, T.es_61, T.fo_63_12, T.fo_63_13, T.fo_63_2, T.fo_66_0, T.fo_66_2, T.gf_27, T.gf_28, T.gf_29, T.gf_33, T.gf_34, T.gf_35, T.gf_36, T.gf_37, T.gf_38, T.ib_27, T.ib_3, T.ii_61, T.ip_27, T.ip_3, T.s8_61, T.sl_61, T.st_61, T.un_61, T.zo_66, c1, c2]
        exact fin 1
end Ph
