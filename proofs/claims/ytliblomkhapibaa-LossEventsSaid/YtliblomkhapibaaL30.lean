import Derived.Test.YtliblomkhapibaaL29
set_option maxRecDepth 100000
set_option maxHeartbeats 4000000
set_option linter.unusedSimpArgs false
set_option linter.unusedVariables false
namespace Ph
open Go Go.Proofs
attribute [local irreducible] Value.cells
attribute [local go_sem ↓] y_move y_assign y_pick y_nil y_bin y_un y_fa y_field y_ext y_ia y_ix y_slice y_build y_mf y_load y_len y_min y_max y_conv y_bs y_mk y_alloc y_box y_store y_clear y_app y_callf y_callt s_move s_assign s_pick s_nil s_bin s_un s_fa s_field s_ext s_ia s_ix s_slice s_conv s_build s_bs s_mf s_alloc s_box s_load s_store s_len s_clear s_min s_max s_app s_call q_call q_move q_assign q_pick q_nil q_bin q_un q_fa q_field q_ext q_ia q_ix q_slice q_conv q_build q_mf q_load q_len q_min q_max l_nil l_move l_assign l_pick l_nilc l_bin l_un l_fa l_field l_ext l_ia l_ix l_slice l_conv l_build l_mf l_load l_len l_min l_max l_call put_eq putN_eq o_nil o_plain o_gate v_nil v_plain v_gate vc_skip vc_region vc_seq vc_cond vc_block vc_loop vc_rf vc_exit vc_ret blk_normal blk_ret blk_exit on_normal on_ret on_exit vc_drawn draw_q s_mk l_bs l_mk l_alloc l_box l_store l_app l_clear pl_done pl_takeS pl_take pl_alt pl_stop one_plain one_gate
attribute [local go_sem] clear_nil clear_sl onAgg_a onTuple_t onFn_f onFn_y onFunc_f c_int c_nil c_sl c_str sl_sl sl_nil sl_str ix_str ix_agg n_nil n_sl n_str app_eq k_nil k_sl len_sl len_str upd_some upd_none ev_tmp ev_const ev_func rd_some gdst_eq otmp_t otmp_c get_put get_alloc next_put next_alloc get_app next_app init_a resV1 resV2 onPtr_ptr onBool_b onInt_i onSlice_s onSome_s onCells_c lett_eq gate_tt gate_tf gate_ff gate_ft gate_dt gate_df also_eq bin un minmax io_none io_some bo_none bo_some partOf List.getElem?_cons_zero List.getElem?_cons_succ List.getElem?_toArray Option.map_some Option.map_none Option.bind_some ne_eq not_true_eq_false not_false_eq_true false_implies true_implies and_true true_and and_self Bool.false_eq_true Nat.zero_add Nat.add_zero List.size_toArray List.length_cons List.length_nil List.map_toArray List.map_cons List.map_nil Array.getD_eq_getD_getElem? Option.getD_some Bool.not_true Bool.not_false Bool.not_eq_true Option.isNone_some Option.isNone_none List.append_toArray List.append_nil List.nil_append List.cons_append decide_true decide_false in_nil in_cons Bool.and_false Bool.and_true Bool.or_false Bool.true_or Bool.false_or get_mask next_mask get_unmask next_unmask ac_move ac_assign ac_pick ac_nil ac_bin ac_un ac_fa ac_field ac_ext ac_ia ac_ix ac_slice ac_build ac_mf ac_call ac_load ac_conv accP_p accS_s accS_n accS_i accS_t fixed_ro fixed_lock fixed_own get_ro next_ro lock_live' lock_cells List.mem_cons List.not_mem_nil or_false false_or or_true true_or and_false false_and IntKind.bits Int.natCast_zero Int.natCast_one size_str data_str list_str mk_str ext_str app_str bytes_str w_byte w_byteu Int.toNat_natCast Int.toNat_zero Int.toNat_one Nat.sub_zero ge_iff_le gt_iff_lt Nat.le_refl Int.le_refl List.drop_zero Int.ofNat_eq_natCast Int.natCast_nonneg Int.sub_zero oc_int oc_bool oc_str oc_ptr oc_sl oc_map oc_func List.set_cons_zero List.set_cons_succ Nat.mul_one List.all_cons List.all_nil Bool.and_self res_nil res_tmp res_cell tup_one tup_two tup_nil fill_nil repl_zero cells_agg List.append_eq List.toList_toArray Nat.zero_mul Nat.one_mul repl_one repl_two onSome_build fill_cons onSome_lit splice_eq cells_int cells_bool cells_str cells_ptr cells_sl cells_map cells_func loadK_n loadK_s load_k storeK_n storeK_s store_k all_arr List.take_zero List.take_succ_cons List.drop_succ_cons List.take_nil List.drop_nil lk_own lk_ro lk_lock lk_lk fixed_lk gate_nt gate_nf gate3_b gate3_u undef Bool.true_and Bool.false_and nx_l nx_r nx_lt put_put resV0
/-! LossEvents: both states, beside each other. -/
theorem none_ph (h : Heap) : @CallsH Try.prog 17 #[] h ⟨fun u _ => u = .pointer none⟩ := by
  (refine calls_of_vc [] hm Try.func17 rfl (ts := [0]) rfl (by kernel_rfl) (by simp) ?_; simp (config := { dsimp := false }) only [go_sem, reduceIte, Nat.reduceEqDiff, reduceCtorEq, Nat.reduceAdd, Nat.reduceMul, Int.reduceToNat, Int.reduceLE, Int.reduceLT, Int.reduceEq, Int.reduceNe, Nat.reduceLeDiff, Int.reducePow, Nat.reducePow, Nat.reduceLT, Nat.reduceSub, Nat.reduceMod, Nat.reduceDiv, init_a])
theorem SentN_ph (h : Heap) (num size at_ : Int) (asks : Bool) : @CallsH Try.prog 10 #[.pointer none, .int .i64 num, .int .i64 size, .bool asks, .int .i64 at_] h ⟨fun u _ => u = .int .i64 1⟩ := by
  (refine calls_of_vc [] hm Try.func10 rfl (ts := [10]) rfl (by kernel_rfl) (by simp) ?_; simp (config := { dsimp := false }) only [go_sem, reduceIte, Nat.reduceEqDiff, reduceCtorEq, Nat.reduceAdd, Nat.reduceMul, Int.reduceToNat, Int.reduceLE, Int.reduceLT, Int.reduceEq, Int.reduceNe, Nat.reduceLeDiff, Int.reducePow, Nat.reducePow, Nat.reduceLT, Nat.reduceSub, Nat.reduceMod, Nat.reduceDiv, T.ag_3, T.ag_61, T.eb_61, T.ez_61, T.fo_63_0, T.fo_63_1, T.fo_63_11, T.fo_63_13, T.gf_27, T.ib_3, T.ii_61, T.ip_3, T.pl_66, T.s8_61, T.sl_61, T.st_61, T.un_61, T.zo_66, init_a])
  refine CallsH.pure _ rfl (timeN_ph _ _) ?_
  simp (config := { dsimp := false }) only [go_sem, reduceIte, Nat.reduceEqDiff, reduceCtorEq, Nat.reduceAdd, Nat.reduceMul, Int.reduceToNat, Int.reduceLE, Int.reduceLT, Int.reduceEq, Int.reduceNe, Nat.reduceLeDiff, Int.reducePow, Nat.reducePow, Nat.reduceLT, Nat.reduceSub, Nat.reduceMod, Nat.reduceDiv, T.ag_3, T.ag_61, T.eb_61, T.ez_61, T.fo_63_0, T.fo_63_1, T.fo_63_11, T.fo_63_13, T.gf_27, T.ib_3, T.ii_61, T.ip_3, T.pl_66, T.s8_61, T.sl_61, T.st_61, T.un_61, T.zo_66]
theorem fire_keep (s : St) (at_ : Int) : ((fireS s at_).2.2.2 = 0 ∧ (fireS s at_).1.now = at_ ∧ (fireS s at_).1.top = s.top) ∨ ((fireS s at_).2.2.2 = 1 ∧ (fireS s at_).1 = s) := by
  unfold fireS
  split
  · left
    simp only
    split
    · split
      · obtain ⟨_, h2, h3⟩ := give_waits { s with now := at_ } at_
        exact ⟨rfl, h3, h2⟩
      · exact ⟨rfl, rfl, rfl⟩
    · exact ⟨rfl, rfl, rfl⟩
  · exact .inr ⟨rfl, rfl⟩
theorem ack_keep (s : St) (l : List Sp) (delay at_ : Int) : ((ackS s l delay at_).2.2.2 = 0 ∧ (ackS s l delay at_).1.now = at_ ∧ (ackS s l delay at_).1.top = s.top) ∨ ((ackS s l delay at_).2.2.2 ≠ 0 ∧ (ackS s l delay at_).1 = s) := by
  unfold ackS
  split
  · split
    · left
      obtain ⟨_, h2, h3⟩ := give_waits (ack3 (ack1 s l at_) (ackL s l) delay at_) at_
      obtain ⟨_, k2, k3⟩ := ack3_keep (ack1 s l at_) (ackL s l) delay at_
      exact ⟨rfl, h3.trans k3, h2.trans k2⟩
    · rename_i hn; exact .inr ⟨hn, rfl⟩
  · exact .inr ⟨by simp, rfl⟩
theorem ack_lens (s : St) (l : List Sp) (delay at_ : Int) : (ackS s l delay at_).2.1.length ≤ s.waits.length ∧ (ackS s l delay at_).2.2.1.length ≤ s.waits.length := by
  unfold ackS
  split
  · split
    · simp only
      obtain ⟨k1, _, _⟩ := ack3_keep (ack1 s l at_) (ackL s l) delay at_
      refine ⟨?_, ?_⟩
      · rw [List.length_map]; exact List.length_filter_le _ _
      · rw [List.length_map]
        refine Nat.le_trans (List.length_filter_le _ _) ?_
        rw [k1]; exact List.length_filter_le _ _
    · exact ⟨by simp, by simp⟩
  · exact ⟨by simp, by simp⟩
theorem fire_lens (s : St) (at_ : Int) : (fireS s at_).2.1.length ≤ s.waits.length := by
  unfold fireS
  split
  · simp only
    split
    · split
      · show ((giveL { s with now := at_ } at_).map (·.num)).length ≤ _
        rw [List.length_map]; exact List.length_filter_le _ _
      · simp
    · simp
  · simp
structure EA (b : Nat) (p m : Nat) (L : List RP) (s : St) (Dp Dm : List Nat) (H : Heap) : Prop where
  st : StR H p Dp s
  rf : RefR H m Dm L s
  ri : RI L s
  new : b ≤ p ∧ b ≤ m ∧ (∀ d ∈ Dp, b ≤ d) ∧ ∀ d ∈ Dm, b ≤ d
  apart : p ≠ m ∧ p ∉ Dm ∧ m ∉ Dp ∧ ∀ d ∈ Dp, d ∉ Dm
structure EE (h : Heap) (p m : Nat) (L : List RP) (s : St) (Dp Dm : List Nat) (H : Heap) : Prop extends EA h.next p m L s Dp Dm H where
  upd : Upd h H []
theorem EE.keep {h H H' : Heap} {p m : Nat} {L : List RP} {s : St} {Dp Dm : List Nat} (hE : EE h p m L s Dp Dm H) (hu : Upd H H' []) : EE h p m L s Dp Dm H' :=
  ⟨⟨hE.st.upd hu (by simp) (by simp), hE.rf.upd hu (by simp) (by simp), hE.ri, hE.new, hE.apart⟩, hE.upd.trans hu (by simp)⟩
/-- the program's state is done; the document's is still to be -/
theorem EA.half {b : Nat} {H H2 : Heap} {p m : Nat} {L : List RP} {s : St} {Dp Dm : List Nat} (hE : EA b p m L s Dp Dm H) (hu : Upd H H2 (p :: Dp)) : RefR H2 m Dm L s :=
  hE.rf.upd hu (by simp; exact ⟨fun e => hE.apart.1 e.symm, hE.apart.2.2.1⟩) fun d hd h2 => by
    rcases List.mem_cons.1 h2 with h3 | h3
    · exact hE.apart.2.1 (h3 ▸ hd)
    · exact hE.apart.2.2.2 d h3 hd
theorem EA.step {b : Nat} {H H2 H3 : Heap} {p m : Nat} {L L' : List RP} {s s' : St} {Dp Dm Dp' Dm' : List Nat} (hE : EA b p m L s Dp Dm H) (hb : b ≤ H.next)
    (hS : StR H2 p Dp' s') (hDp : ∀ d ∈ Dp', d ∈ Dp ∨ H.next ≤ d) (hu : Upd H H2 (p :: Dp)) (hR : RefR H3 m Dm' L' s') (hDm : ∀ d ∈ Dm', d ∈ Dm ∨ H2.next ≤ d) (hu3 : Upd H2 H3 (m :: Dm)) (hI : RI L' s') : EA b p m L' s' Dp' Dm' H3 := by
  have h1 := hE.st.lt
  have h2 := hE.rf.lt
  have h3 := hS.lt
  have h4 := hu.1
  have h5 := hE.st.1
  have h6 := hE.rf.1
  have a1 : m ∉ Dp' := fun hm => by
    rcases hDp m hm with h | h
    · exact hE.apart.2.2.1 h
    · omega
  have a2 : ∀ d ∈ Dp', d ∉ Dm := fun d hd hm => by
    rcases hDp d hd with h | h
    · exact hE.apart.2.2.2 d h hm
    · have := h2 d hm; omega
  refine ⟨hS.upd hu3 (by simp; exact ⟨hE.apart.1, hE.apart.2.1⟩) (fun d hd h9 => ?_), hR, hI, ⟨hE.new.1, hE.new.2.1, fun d hd => ?_, fun d hd => ?_⟩, ⟨hE.apart.1, fun hp => ?_, a1, fun d hd hm => ?_⟩⟩
  · rcases List.mem_cons.1 h9 with h | h
    · exact a1 (h ▸ hd)
    · exact a2 d hd h
  · rcases hDp d hd with h | h
    · exact hE.new.2.2.1 d h
    · omega
  · rcases hDm d hd with h | h
    · exact hE.new.2.2.2 d h
    · omega
  · rcases hDm p hp with h | h
    · exact hE.apart.2.1 h
    · omega
  · rcases hDm d hm with h | h
    · exact a2 d hd h
    · have := h3 d hd; omega
theorem EE.step {h H H2 H3 : Heap} {p m : Nat} {L L' : List RP} {s s' : St} {Dp Dm Dp' Dm' : List Nat} (hE : EE h p m L s Dp Dm H)
    (hS : StR H2 p Dp' s') (hDp : ∀ d ∈ Dp', d ∈ Dp ∨ H.next ≤ d) (hu : Upd H H2 (p :: Dp)) (hR : RefR H3 m Dm' L' s') (hDm : ∀ d ∈ Dm', d ∈ Dm ∨ H2.next ≤ d) (hu3 : Upd H2 H3 (m :: Dm)) (hI : RI L' s') : EE h p m L' s' Dp' Dm' H3 := by
  refine ⟨hE.toEA.step hE.upd.1 hS hDp hu hR hDm hu3 hI, (hE.upd.trans hu fun d hd => ?_).trans hu3 fun d hd => ?_⟩
  · rcases List.mem_cons.1 hd with h | h
    · exact .inr (by rw [h]; exact hE.new.1)
    · exact .inr (hE.new.2.2.1 d h)
  · rcases List.mem_cons.1 hd with h | h
    · exact .inr (by rw [h]; exact hE.new.2.1)
    · exact .inr (hE.new.2.2.2 d h)
/-! Behind a mask. -/
theorem OwnRow.mask {α : Type} {E : Enc α} {h : Heap} {v : Value} {D wr : List Nat} {l : List α} (hO : OwnRow E h v D l) (hw : ∀ d ∈ D, d ∈ wr) : OwnRow E (h.mask wr) v D l :=
  hO.keep (by rw [next_mask]; exact Nat.le_refl _) fun d hd => by rw [get_mask, if_pos (hw d hd)]
theorem OwnRow.unmask {α : Type} {E : Enc α} {h h' : Heap} {v : Value} {D wr : List Nat} {l : List α} (hO : OwnRow E h' v D l) (hw : ∀ d ∈ D, d ∈ wr ∨ h.next ≤ d) : OwnRow E (h.unmask wr h') v D l :=
  hO.keep (by rw [next_unmask]; exact Nat.le_refl _) fun d hd => by
    rw [get_unmask, if_neg]
    rintro ⟨a, b⟩
    rcases hw d hd with h1 | h1
    · exact b h1
    · omega
theorem EA.mask {b : Nat} {H : Heap} {p m : Nat} {L : List RP} {s : St} {Dp Dm wr : List Nat} (hE : EA b p m L s Dp Dm H) (hw : p :: m :: (Dp ++ Dm) = wr) : EA b p m L s Dp Dm (H.mask wr) := by
  have k1 : p ∈ wr := by rw [← hw]; simp
  have k2 : m ∈ wr := by rw [← hw]; simp
  have k3 : ∀ d ∈ Dp, d ∈ wr := fun d hd => by rw [← hw]; simp [hd]
  have k4 : ∀ d ∈ Dm, d ∈ wr := fun d hd => by rw [← hw]; simp [hd]
  obtain ⟨a1, a2, w1, a3, a4⟩ := hE.st
  obtain ⟨b1, b2, w2, b3, b4⟩ := hE.rf
  exact ⟨⟨a1, a2, w1, by rw [get_mask, if_pos k1]; exact a3, a4.mask k3⟩, ⟨b1, b2, w2, by rw [get_mask, if_pos k2]; exact b3, b4.mask k4⟩, hE.ri, hE.new, hE.apart⟩
theorem EE.masked {h H H3 : Heap} {p m : Nat} {L L' : List RP} {s s' : St} {Dp Dm Dp' Dm' wr : List Nat} (hE : EE h p m L s Dp Dm H) (hw : p :: m :: (Dp ++ Dm) = wr)
    (hA : EA h.next p m L' s' Dp' Dm' H3) (hDp : ∀ d ∈ Dp', d ∈ Dp ∨ H.next ≤ d) (hDm : ∀ d ∈ Dm', d ∈ Dm ∨ H.next ≤ d) (hn : H.next ≤ H3.next) : EE h p m L' s' Dp' Dm' (H.unmask wr H3) := by
  have k1 : p ∈ wr := by rw [← hw]; simp
  have k2 : m ∈ wr := by rw [← hw]; simp
  have k3 : ∀ d ∈ Dp, d ∈ wr := fun d hd => by rw [← hw]; simp [hd]
  have k4 : ∀ d ∈ Dm, d ∈ wr := fun d hd => by rw [← hw]; simp [hd]
  obtain ⟨a1, a2, w1, a3, a4⟩ := hA.st
  obtain ⟨b1, b2, w2, b3, b4⟩ := hA.rf
  refine ⟨⟨⟨by rw [next_unmask]; exact a1, a2, w1, by rw [get_unmask, if_neg (fun e => e.2 k1)]; exact a3, a4.unmask fun d hd => (hDp d hd).imp_left (k3 d)⟩, ⟨by rw [next_unmask]; exact b1, b2, w2, by rw [get_unmask, if_neg (fun e => e.2 k2)]; exact b3, b4.unmask fun d hd => (hDm d hd).imp_left (k4 d)⟩, hA.ri, hA.new, hA.apart⟩, ?_⟩
  refine hE.upd.trans ((Upd.refl H wr).unmask hn fun d hd => .inl hd) fun d hd => ?_
  right
  rw [← hw] at hd
  simp only [List.mem_cons, List.mem_append] at hd
  rcases hd with h1 | h1 | h1 | h1
  · rw [h1]; exact hE.new.1
  · rw [h1]; exact hE.new.2.1
  · exact hE.new.2.2.1 d h1
  · exact hE.new.2.2.2 d h1
theorem StR.mask {h : Heap} {p : Nat} {D wr : List Nat} {s : St} (hS : StR h p D s) (k1 : p ∈ wr) (k3 : ∀ d ∈ D, d ∈ wr) : StR (h.mask wr) p D s := by
  obtain ⟨a1, a2, w1, a3, a4⟩ := hS
  exact ⟨a1, a2, w1, by rw [get_mask, if_pos k1]; exact a3, a4.mask k3⟩
theorem StR.unmask {h h' : Heap} {p : Nat} {D wr : List Nat} {s : St} (hS : StR h' p D s) (k1 : p ∈ wr) (k3 : ∀ d ∈ D, d ∈ wr ∨ h.next ≤ d) : StR (h.unmask wr h') p D s := by
  obtain ⟨a1, a2, w1, a3, a4⟩ := hS
  exact ⟨by rw [next_unmask]; exact a1, a2, w1, by rw [get_unmask, if_neg (fun e => e.2 k1)]; exact a3, a4.unmask k3⟩
theorem Upd.masked {h h2 : Heap} {wr F : List Nat} (hu : Upd (h.mask wr) h2 F) : Upd h (h.unmask wr h2) F :=
  ⟨by rw [next_unmask]; exact hu.1, fun id hid hF => by
    rw [get_unmask]
    split
    · rfl
    · rename_i hn
      have hw : id ∈ wr := Classical.byContradiction fun h3 => hn ⟨hid, h3⟩
      rw [hu.2 id hid hF, get_mask, if_pos hw]⟩
theorem RowIn.mask {α : Type} {E : Enc α} {h : Heap} {v : Value} {wr : List Nat} {l : List α} (hr : RowIn E h v l) : RowIn E (h.mask wr) v l := by
  rcases hr with hr | ⟨q, off, vs, o, h1, h2, h3⟩
  · exact .inl hr
  · by_cases hq : q ∈ wr
    · exact .inr ⟨q, off, vs, o, h1, by rw [get_mask, if_pos hq]; exact h2, h3⟩
    · exact .inr ⟨q, off, vs, _, h1, by rw [get_mask, if_neg hq, h2, lock_live', lock_cells], h3⟩
end Ph
